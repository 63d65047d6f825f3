/- walks; pruned haves; hints pruned; squeezed -/
import Derived.Test.YtcginoabkicdiaaGreatPzzD96
import Derived.Test.YtcginoabkicdiaaGreatPzzSp
open Go.Proofs.Tryz
set_option linter.unusedVariables false
set_option linter.unusedSimpArgs false
namespace Go.Proofs.YtcginoabkicdiaaGreat
set_option maxRecDepth 100000
set_option maxHeartbeats 4000000
variable {w:World} {F:Nat→Prop} {a1 a2 a3 a4 a5 a6 a7 a8 a9 a10 a11 a12 a13 a14:Option Addr} {n1 c1 n2 c2 n3 c3 n4 c4 n5 c5 n6 c6 n7 c7 n8 c8 n9 c9 n10 c10 n11 c11 n12 c12 n13 c13 n14 c14:Nat}
theorem NP (a:Tag) (left:Int){F:Nat→Prop}  (p0:TgB a) (p1:0≤left∧left≤1048576):Calls Tryz.prog 92 [.agg #[.string (bs a.key),.string (bs a.val)],.int .i64 left].toArray w (Ag fun rv w'=>rv=.int .i64 (szI (mT a) left)∧Ext w w'):=by
 refine goT func92 ?_
 have Z:=St.i0 F w
 exact .s<|.g<|RG.Np Z fun ac w Z=>.r 1<|.d<|.s<|.g<|.r 2<|RG.Lb 0 Z<|RG.eqv (v:=vI (a.key.length:Int)) AA (Lv a.key)<|RG.int (left - (a.key.length:Int)) AA (by (have q1:=p0.1; omega))<|.r 1<|.d<|.s<|.s<|.g<|.r 1<|.bp (left - (a.key.length:Int)< 0) (fun aa=>.d<|.ct<|.s<|.g<|.r 1<|.d<|T.rt func92 results92 (vI (-1)) ⟨(congrArg (Value.int .i64) (by grind [szI,mT])),Z.xt⟩) fun aa=>.d<|.cf<|.sk<|.s<|.g<|.r 2<|RG.Lb 0 Z<|RG.eqv (v:=vI (a.val.length:Int)) AA (Lv a.val)<|RG.int ((left - (a.key.length:Int)) - (a.val.length:Int)) AA (by (have q1:=p0.1; have q2:=p0.2; omega))<|.r 1<|.d<|.s<|.s<|.g<|.r 1<|.bp ((left - (a.key.length:Int)) - (a.val.length:Int)< 0) (fun ab=>.d<|.ct<|.s<|.g<|.r 1<|.d<|T.rt func92 results92 (vI (-1)) ⟨(congrArg (Value.int .i64) (by grind [szI,mT])),Z.xt⟩) fun ab=>.d<|.cf<|.sk<|.s<|.g<|.r 2<|.d<|T.rt func92 results92 (vI ((left - (a.key.length:Int)) - (a.val.length:Int))) ⟨(congrArg (Value.int .i64) (by grind [szI,mT])),Z.xt⟩
theorem LZ (a:List Tag) (left:Int) (h1:RepS w F a1 n1 c1 a) (p0:NmB a) (p1:0≤left∧left≤1048576):Calls Tryz.prog 36 [.slice a1 n1 c1,.int .i64 left].toArray w (Ag fun rv w'=>rv=.int .i64 (szI (mNm a) left)∧Ext w w'):=by
 cases h1.len
 refine goT func36 ?_
 have Z:=(St.i0 F w).p h1
 have aj:=h1.max
 refine .s<|.g<|.r 1<|.d<|.s<|.g<|.r 3<|.it (left - (a.length:Int))<|.r 1<|.d<|.s<|.s<|.g<|.r 1<|.bp (left - (a.length:Int)< 0) (fun af=>.d<|.ct<|.s<|.g<|.r 1<|.d<|T.rt func36 results36 (vI (-1)) ⟨(congrArg (Value.int .i64) (by exact P7 ‹_› rfl)),Z.xt⟩) fun af=>.d<|.cf<|.sk<|.s<|.s<|.g<|.r 1<|.d<|.b 0<|T.Lp (left - (a.length:Int),(0:Nat)) (fun (aa,i)=>([(0,.slice a1 a.length c1),(1,vI aa),(5,vI (i:Int))],[],[],a.length - i,(i≤a.length)∧(0≤aa∧aa≤1048576)∧(szI (HO mT (a.drop i)) aa=szI (mNm a) left))) [] Z ⟨AB,AB,(by exact P6 rfl AB rfl)⟩ ?_
 rintro ⟨aa,i⟩ ar w Z ⟨ak,am,ao⟩ ac
 refine .s<|.s<|.g<|.r 3<|.bp ((i:Int)< (a.length:Int)) (fun ag=>?_) (fun ag=>.d<|.cf<|.x 0 rfl<|.s<|.g<|.r 2<|.d<|T.rt func36 results36 (vI aa) ⟨(congrArg (Value.int .i64) (by exact U3 ‹_› AB AB)),Z.xt⟩)
 refine .d<|.ct<|.sk<|.s<|.b 1<|.s<|.g<|.r 2<|gx a i fun ae ab=>?_
 have aq:=AZ ab; have ai:=AV ab
 exact RG.Ix 0 ab Z<|Z.el 0 ab fun Z=>RG.Lg 0 0 Z<|.r 1<|RG.C0 (NP ae aa (p0 _ ‹_›) AB (F:=all)) Z fun w Z=>.r 1<|.d<|.s<|.g<|.r 1<|.bp (szI (mT ae) aa< 0) (fun ah=>.d<|.ct<|.s<|.g<|.r 1<|.d<|T.rt func36 results36 (vI (-1)) ⟨(congrArg (Value.int .i64) (by exact W3 ‹_› ‹_› ‹_› AB)),Z.xt⟩) fun ah=>.d<|.cf<|.sk<|.ib 1<|.g<|.r 1<|.it ((i:Int)+1)<|.r 1<|.d<|ac (szI (mT ae) aa,i+1) _ _ AA (Z.to 0 [] 1) ⟨AB,(by have q1:=P5 ‹_›; omega),(by exact Rs ‹_› ‹_› ‹_›)⟩ (by (simp only []; omega))
theorem K7 (a:Evt) (left:Int) (h1:RepS w F a1 n1 c1 a.name) (p0:EvB a) (p1:0≤left∧left≤1048576):Calls Tryz.prog 15 [.agg #[.int .i64 a.kind,.int .i64 a.at_,.int .i64 a.cut,.slice a1 n1 c1,.int .i64 a.row.t,.int .i64 a.row.v],.int .i64 left].toArray w (Ag fun rv w'=>rv=.int .i64 (szI (mEv a) left)∧Ext w w'):=by
 cases h1.len
 refine goT func15 ?_
 have Z:=(St.i0 F w).p h1
 exact .s<|.g<|RG.Np Z fun ac w Z=>.r 1<|.d<|.s<|.g<|.r 1<|RG.Lb 0 Z<|.r 1<|RG.C0 (LZ a.name left (Z.a 0) p0 AB) Z fun w Z=>.r 1<|.d<|.s<|.s<|.g<|.r 1<|.bp (szI (mNm a.name) left< 0) (fun aa=>.d<|.ct<|.s<|.g<|.r 1<|.d<|T.rt func15 results15 (vI (-1)) ⟨(congrArg (Value.int .i64) (by grind [szI,mEv])),Z.xt⟩) fun aa=>.d<|.cf<|.sk<|.s<|.g<|.r 2<|.d<|T.rt func15 results15 (vI (szI (mNm a.name) left)) ⟨(congrArg (Value.int .i64) (by grind [szI,mEv])),Z.xt⟩
theorem J5 (a:List Evt) (left:Int) (h1:RepS w F a1 n1 c1 a) (p0:Vl a) (p1:0≤left∧left≤1048576):Calls Tryz.prog 5 [.slice a1 n1 c1,.int .i64 left].toArray w (Ag fun rv w'=>rv=.int .i64 (szI (M8 a) left)∧Ext w w'):=by
 cases h1.len
 refine goT func5 ?_
 have Z:=(St.i0 F w).p h1
 have aj:=h1.max
 refine .s<|.g<|.r 1<|.d<|.s<|.g<|.r 3<|.it (left - (a.length:Int))<|.r 1<|.d<|.s<|.s<|.g<|.r 1<|.bp (left - (a.length:Int)< 0) (fun af=>.d<|.ct<|.s<|.g<|.r 1<|.d<|T.rt func5 results5 (vI (-1)) ⟨(congrArg (Value.int .i64) (by exact P7 ‹_› rfl)),Z.xt⟩) fun af=>.d<|.cf<|.sk<|.s<|.s<|.g<|.r 1<|.d<|.b 0<|T.Lp (left - (a.length:Int),(0:Nat)) (fun (aa,i)=>([(0,.slice a1 a.length c1),(1,vI aa),(5,vI (i:Int))],[],[],a.length - i,(i≤a.length)∧(0≤aa∧aa≤1048576)∧(szI (HO mEv (a.drop i)) aa=szI (M8 a) left))) [] Z ⟨AB,AB,(by exact P6 rfl AB rfl)⟩ ?_
 rintro ⟨aa,i⟩ ar w Z ⟨ak,am,ao⟩ ac
 refine .s<|.s<|.g<|.r 3<|.bp ((i:Int)< (a.length:Int)) (fun ag=>?_) (fun ag=>.d<|.cf<|.x 0 rfl<|.s<|.g<|.r 2<|.d<|T.rt func5 results5 (vI aa) ⟨(congrArg (Value.int .i64) (by exact U3 ‹_› AB AB)),Z.xt⟩)
 refine .d<|.ct<|.sk<|.s<|.b 1<|.s<|.g<|.r 2<|gx a i fun ae ab=>?_
 have aq:=AZ ab; have ai:=AV ab
 exact RG.Ix 0 ab Z<|Z.el 0 ab fun ax ay Z=>RG.Lg 0 0 Z<|.r 1<|RG.C0 (K7 ae aa (Z.a 1) (p0 _ ‹_›) AB) Z fun w Z=>.r 1<|.d<|.s<|.g<|.r 1<|.bp (szI (mEv ae) aa< 0) (fun ah=>.d<|.ct<|.s<|.g<|.r 1<|.d<|T.rt func5 results5 (vI (-1)) ⟨(congrArg (Value.int .i64) (by exact W3 ‹_› ‹_› ‹_› AB)),Z.xt⟩) fun ah=>.d<|.cf<|.sk<|.ib 1<|.g<|.r 1<|.it ((i:Int)+1)<|.r 1<|.d<|ac (szI (mEv ae) aa,i+1) _ _ AA (Z.to 0 [] 2) ⟨AB,(by have q1:=P5 ‹_›; omega),(by exact Rs ‹_› ‹_› ‹_›)⟩ (by (simp only []; omega))
theorem NQ (a:Tag){F:Nat→Prop}   : Calls Tryz.prog 100 [.agg #[.string (bs a.key),.string (bs a.val)]].toArray w (Ag fun rv w'=>VS (ge w.heap.size) w' (a:Tag) rv∧Ext w w'):=by
 refine goT func100 ?_
 have Z:=St.i0 F w
 exact .s<|.g<|RG.Np Z fun aa w Z=>RG.Np Z fun ab w Z=>.d<|.s<|.g<|RG.Np Z fun ac w Z=>.d<|.s<|.g<|.r 1<|RG.Lb 2 Z<|.r 1<|RG.Ss 0 Z fun w Z=>.d<|.s<|.g<|.r 1<|RG.Lb 2 Z<|.r 1<|RG.Ss 0 Z fun w Z=>.d<|.s<|.g<|RG.Ln 0 Z<|RG.Ss 1 Z fun w Z=>.d<|T.Rb 1 func100 results100 Z ⟨Z.rS a [] rfl,Z.xt⟩
theorem NR (a:Row){F:Nat→Prop}   : Calls Tryz.prog 41 [.agg #[.int .i64 a.t,.int .i64 a.v]].toArray w (Ag fun rv w'=>VS (ge w.heap.size) w' (a:Row) rv∧Ext w w'):=by
 refine goT func41 ?_
 have Z:=St.i0 F w
 exact .s<|.g<|RG.Np Z fun aa w Z=>RG.Np Z fun ab w Z=>.d<|.s<|.g<|RG.Np Z fun ac w Z=>.d<|.s<|.g<|.r 1<|RG.Lb 2 Z<|.r 1<|RG.Ss 0 Z fun w Z=>.d<|.s<|.g<|.r 1<|RG.Lb 2 Z<|.r 1<|RG.Ss 0 Z fun w Z=>.d<|.s<|.g<|RG.Ln 0 Z<|RG.Ss 1 Z fun w Z=>.d<|T.Rb 1 func41 results41 Z ⟨Z.rS a [] rfl,Z.xt⟩
theorem Ik (a:Tag) (b:Tag){F:Nat→Prop}   : Calls Tryz.prog 106 [.agg #[.string (bs a.key),.string (bs a.val)],.agg #[.string (bs b.key),.string (bs b.val)]].toArray w (Ag fun rv w'=>rv=.bool ((a==b))∧Ext w w'):=by
 refine goT func106 ?_
 have Z:=St.i0 F w
 refine .s<|.g<|RG.Np Z fun ac w Z=>RG.Np Z fun ae w Z=>.r 1<|.d<|.s<|.s<|.g<|.r 1<|RG.Lb 1 Z<|.r 1<|RG.Lb 0 Z<|RG.eqv (v:=.bool (!(a.key==b.key))) AA (QS a.key b.key) ?_
 cases aa:(a.key==b.key)
 ·exact .d<|.ct<|.s<|.g<|.r 1<|.d<|T.rt func106 results106 (.bool false) ⟨(AG (by cases a; cases b; grind)),Z.xt⟩
 refine .d<|.cf<|.sk<|.s<|.s<|.g<|.r 1<|RG.Lb 1 Z<|.r 1<|RG.Lb 0 Z<|RG.eqv (v:=.bool (!(a.val==b.val))) AA (QS a.val b.val) ?_
 cases ab:(a.val==b.val)
 ·exact .d<|.ct<|.s<|.g<|.r 1<|.d<|T.rt func106 results106 (.bool false) ⟨(AG (by cases a; cases b; grind)),Z.xt⟩
 exact .d<|.cf<|.sk<|.s<|.g<|.r 1<|.d<|T.rt func106 results106 (.bool true) ⟨(AG (by cases a; cases b; grind)),Z.xt⟩
theorem Hc (a:List Tag) (b:List Tag) (h1:RepS w F a1 n1 c1 a) (h2:RepS w F a2 n2 c2 b)  : Calls Tryz.prog 45 [.slice a1 n1 c1,.slice a2 n2 c2].toArray w (Ag fun rv w'=>rv=.bool ((a==b))∧Ext w w'):=by
 cases h1.len
 cases h2.len
 refine goT func45 ?_
 have Z:=((St.i0 F w).p h1).p h2
 have ak:=h1.max
 refine .s<|.g<|.r 1<|.d<|.s<|.s<|.g<|.r 4<|.ne (a.length:Int) (b.length:Int) (fun ae=>.d<|.ct<|.s<|.g<|.r 1<|.d<|T.rt func45 results45 (.bool false) ⟨(AG (by grind [Aa])),Z.xt⟩) fun ae=>.d<|.cf<|.sk<|.s<|.s<|.g<|.r 1<|.d<|.b 0<|T.Lp (0:Nat) (fun i=>([(0,.slice a1 a.length c1),(1,.slice a2 b.length c2),(5,vI (i:Int))],[],[],a.length - i,(i≤a.length)∧(a.drop i=b.drop i↔a=b))) [] Z ⟨AD,AD⟩ ?_
 rintro i az w Z ⟨ao,aq⟩ ac
 refine .s<|.s<|.g<|.r 3<|.bp ((i:Int)< (a.length:Int)) (fun af=>?_) (fun af=>.d<|.cf<|.x 0 rfl<|.s<|.g<|.r 1<|.d<|T.rt func45 results45 (.bool true) ⟨(AG (by grind [Aa])),Z.xt⟩)
 refine .d<|.ct<|.sk<|.s<|.b 1<|.s<|T.Gd 8 Z fun w Z=>.r [0,1]<|gx a i fun ag aa=>?_
 have ar:=AZ aa
 refine GA.Ix 2 1 aa Z<|Z.el 1 aa fun Z=>GA.Lg 3 0 0 Z<|.r [4,5]<|gx b i fun ah ab=>?_
 have ax:=AZ ab
 refine GA.Ix 6 1 ab Z<|Z.el 1 ab fun Z=>GA.Lg 7 0 0 Z<|GA.Dn Z fun w Z=>RG.C0 (Ik ag ah (F:=all)) Z fun w Z=>?_
 cases ay:(ag==ah)
 ·exact .r 1<|.d<|.ct<|.s<|.g<|.r 1<|.d<|T.rt func45 results45 (.bool false) ⟨(AG (by grind [Aa])),Z.xt⟩
 exact .r 1<|.d<|.cf<|.sk<|.ib 1<|.g<|.r 1<|.it ((i:Int)+1)<|.r 1<|.d<|ac (i+1) _ _ AA (Z.to 0 [] 2) ⟨AB,(by grind)⟩ (by (simp only []; omega))
theorem G6 (a:List (List Tag)) (b:List (List Tag)) (h1:RepS w F a1 n1 c1 a) (h2:RepS w F a2 n2 c2 b)  : Calls Tryz.prog 72 [.slice a1 n1 c1,.slice a2 n2 c2].toArray w (Ag fun rv w'=>rv=.bool ((a==b))∧Ext w w'):=by
 cases h1.len
 cases h2.len
 refine goT func72 ?_
 have Z:=((St.i0 F w).p h1).p h2
 have ak:=h1.max
 refine .s<|.g<|.r 1<|.d<|.s<|.s<|.g<|.r 4<|.ne (a.length:Int) (b.length:Int) (fun ae=>.d<|.ct<|.s<|.g<|.r 1<|.d<|T.rt func72 results72 (.bool false) ⟨(AG (by grind [Aa])),Z.xt⟩) fun ae=>.d<|.cf<|.sk<|.s<|.s<|.g<|.r 1<|.d<|.b 0<|T.Lp (0:Nat) (fun i=>([(0,.slice a1 a.length c1),(1,.slice a2 b.length c2),(5,vI (i:Int))],[],[],a.length - i,(i≤a.length)∧(a.drop i=b.drop i↔a=b))) [] Z ⟨AD,AD⟩ ?_
 rintro i az w Z ⟨ao,aq⟩ ac
 refine .s<|.s<|.g<|.r 3<|.bp ((i:Int)< (a.length:Int)) (fun af=>?_) (fun af=>.d<|.cf<|.x 0 rfl<|.s<|.g<|.r 1<|.d<|T.rt func72 results72 (.bool true) ⟨(AG (by grind [Aa])),Z.xt⟩)
 refine .d<|.ct<|.sk<|.s<|.b 1<|.s<|T.Gd 8 Z fun w Z=>.r [0,1]<|gx a i fun ag aa=>?_
 have ar:=AZ aa
 refine GA.Ix 2 1 aa Z<|Z.el 1 aa fun aA aB Z=>GA.Lh 3 0 0 Z<|.r [4,5]<|gx b i fun ah ab=>?_
 have ax:=AZ ab
 refine GA.Ix 6 2 ab Z<|Z.el 2 ab fun aC aD Z=>GA.Lh 7 0 0 Z<|GA.Dn Z fun w Z=>RG.C0 (Hc ag ah (Z.a 3) (Z.a 1)) Z fun w Z=>?_
 cases ay:(ag==ah)
 ·exact .r 1<|.d<|.ct<|.s<|.g<|.r 1<|.d<|T.rt func72 results72 (.bool false) ⟨(AG (by grind [Aa])),Z.xt⟩
 exact .r 1<|.d<|.cf<|.sk<|.ib 1<|.g<|.r 1<|.it ((i:Int)+1)<|.r 1<|.d<|ac (i+1) _ _ AA (Z.to 0 [] 4) ⟨AB,(by grind)⟩ (by (simp only []; omega))
theorem FK (a:List Int) (b:List Int) (h1:RepS w F a1 n1 c1 a) (h2:RepS w F a2 n2 c2 b)  : Calls Tryz.prog 71 [.slice a1 n1 c1,.slice a2 n2 c2].toArray w (Ag fun rv w'=>rv=.bool ((a==b))∧Ext w w'):=by
 cases h1.len
 cases h2.len
 refine goT func71 ?_
 have Z:=((St.i0 F w).p h1).p h2
 have am:=h1.max
 refine .s<|.g<|.r 1<|.d<|.s<|.s<|.g<|.r 4<|.ne (a.length:Int) (b.length:Int) (fun ae=>.d<|.ct<|.s<|.g<|.r 1<|.d<|T.rt func71 results71 (.bool false) ⟨(AG (by grind [Aa])),Z.xt⟩) fun ae=>.d<|.cf<|.sk<|.s<|.s<|.g<|.r 1<|.d<|.b 0<|T.Lp (0:Nat) (fun i=>([(0,.slice a1 a.length c1),(1,.slice a2 b.length c2),(5,vI (i:Int))],[],[],a.length - i,(i≤a.length)∧(a.drop i=b.drop i↔a=b))) [] Z ⟨AD,AD⟩ ?_
 rintro i az w Z ⟨aq,ar⟩ ac
 refine .s<|.s<|.g<|.r 3<|.bp ((i:Int)< (a.length:Int)) (fun af=>?_) (fun af=>.d<|.cf<|.x 0 rfl<|.s<|.g<|.r 1<|.d<|T.rt func71 results71 (.bool true) ⟨(AG (by grind [Aa])),Z.xt⟩)
 refine .d<|.ct<|.sk<|.s<|.b 1<|.s<|T.Gd 8 Z fun w Z=>.r [0,1]<|gx a i fun aj aa=>?_
 have ax:=AZ aa
 refine GA.Ix 2 1 aa Z<|Z.el 1 aa fun Z=>GA.Lh 3 0 0 Z<|.r [4,5]<|gx b i fun ak ab=>?_
 have ay:=AZ ab
 exact GA.Ix 6 1 ab Z<|Z.el 1 ab fun Z=>GA.Lh 7 0 0 Z<|GA.Dn Z fun w Z=>.ne aj ak (fun ag=>.d<|.ct<|.s<|.g<|.r 1<|.d<|T.rt func71 results71 (.bool false) ⟨(AG (by grind [Aa])),Z.xt⟩) fun ag=>.d<|.cf<|.sk<|.ib 1<|.g<|.r 1<|.it ((i:Int)+1)<|.r 1<|.d<|ac (i+1) _ _ AA (Z.to 0 [] 2) ⟨AB,(by grind)⟩ (by (simp only []; omega))
theorem La (a:Pst) (b:Pst) (h1:RepS w F a1 n1 c1 a.ids) (h2:RepS w F a2 n2 c2 b.ids)  : Calls Tryz.prog 189 [.agg #[.string (bs a.tag.key),.string (bs a.tag.val),.slice a1 n1 c1],.agg #[.string (bs b.tag.key),.string (bs b.tag.val),.slice a2 n2 c2]].toArray w (Ag fun rv w'=>rv=.bool ((a==b))∧Ext w w'):=by
 cases h1.len
 cases h2.len
 refine goT func189 ?_
 have Z:=((St.i0 F w).p h1).p h2
 have aa:=h1.max
 have ab:=h2.max
 refine .s<|.g<|RG.Np Z fun af w Z=>RG.Np Z fun ag w Z=>.r 1<|.d<|.s<|.s<|.g<|.r 1<|RG.Ln 1 Z<|.r 1<|RG.Ln 0 Z<|RG.C0 (Ik a.tag b.tag (F:=all)) Z fun w Z=>?_
 cases ac:(a.tag==b.tag)
 ·exact .r 1<|.d<|.ct<|.s<|.g<|.r 1<|.d<|T.rt func189 results189 (.bool false) ⟨(AG (by cases a; cases b; grind)),Z.xt⟩
 refine .r 1<|.d<|.cf<|.sk<|.s<|.s<|.g<|.r 1<|RG.Lb 1 Z<|.r 1<|RG.Lb 0 Z<|RG.C0 (FK a.ids b.ids (Z.a 1) (Z.a 0)) Z fun w Z=>?_
 cases ae:(a.ids==b.ids)
 ·exact .r 1<|.d<|.ct<|.s<|.g<|.r 1<|.d<|T.rt func189 results189 (.bool false) ⟨(AG (by cases a; cases b; grind)),Z.xt⟩
 exact .r 1<|.d<|.cf<|.sk<|.s<|.g<|.r 1<|.d<|T.rt func189 results189 (.bool true) ⟨(AG (by cases a; cases b; grind)),Z.xt⟩
theorem K8 (a:List Pst) (b:List Pst) (h1:RepS w F a1 n1 c1 a) (h2:RepS w F a2 n2 c2 b)  : Calls Tryz.prog 136 [.slice a1 n1 c1,.slice a2 n2 c2].toArray w (Ag fun rv w'=>rv=.bool ((a==b))∧Ext w w'):=by
 cases h1.len
 cases h2.len
 refine goT func136 ?_
 have Z:=((St.i0 F w).p h1).p h2
 have ak:=h1.max
 refine .s<|.g<|.r 1<|.d<|.s<|.s<|.g<|.r 4<|.ne (a.length:Int) (b.length:Int) (fun ae=>.d<|.ct<|.s<|.g<|.r 1<|.d<|T.rt func136 results136 (.bool false) ⟨(AG (by grind [Aa])),Z.xt⟩) fun ae=>.d<|.cf<|.sk<|.s<|.s<|.g<|.r 1<|.d<|.b 0<|T.Lp (0:Nat) (fun i=>([(0,.slice a1 a.length c1),(1,.slice a2 b.length c2),(5,vI (i:Int))],[],[],a.length - i,(i≤a.length)∧(a.drop i=b.drop i↔a=b))) [] Z ⟨AD,AD⟩ ?_
 rintro i az w Z ⟨ao,aq⟩ ac
 refine .s<|.s<|.g<|.r 3<|.bp ((i:Int)< (a.length:Int)) (fun af=>?_) (fun af=>.d<|.cf<|.x 0 rfl<|.s<|.g<|.r 1<|.d<|T.rt func136 results136 (.bool true) ⟨(AG (by grind [Aa])),Z.xt⟩)
 refine .d<|.ct<|.sk<|.s<|.b 1<|.s<|T.Gd 8 Z fun w Z=>.r [0,1]<|gx a i fun ag aa=>?_
 have ar:=AZ aa
 refine GA.Ix 2 1 aa Z<|Z.el 1 aa fun aA aB Z=>GA.Lg 3 0 0 Z<|.r [4,5]<|gx b i fun ah ab=>?_
 have ax:=AZ ab
 refine GA.Ix 6 2 ab Z<|Z.el 2 ab fun aC aD Z=>GA.Lg 7 0 0 Z<|GA.Dn Z fun w Z=>RG.C0 (La ag ah (Z.a 3) (Z.a 1)) Z fun w Z=>?_
 cases ay:(ag==ah)
 ·exact .r 1<|.d<|.ct<|.s<|.g<|.r 1<|.d<|T.rt func136 results136 (.bool false) ⟨(AG (by grind [Aa])),Z.xt⟩
 exact .r 1<|.d<|.cf<|.sk<|.ib 1<|.g<|.r 1<|.it ((i:Int)+1)<|.r 1<|.d<|ac (i+1) _ _ AA (Z.to 0 [] 4) ⟨AB,(by grind)⟩ (by (simp only []; omega))
theorem K9 (a:Idx) (b:Idx) (h1:RepS w F a1 n1 c1 a.names) (h2:RepS w F a2 n2 c2 a.AY) (h3:RepS w F a3 n3 c3 b.names) (h4:RepS w F a4 n4 c4 b.AY)  : Calls Tryz.prog 67 [.agg #[.slice a1 n1 c1,.slice a2 n2 c2],.agg #[.slice a3 n3 c3,.slice a4 n4 c4]].toArray w (Ag fun rv w'=>rv=.bool ((a==b))∧Ext w w'):=by
 cases h1.len
 cases h2.len
 cases h3.len
 cases h4.len
 refine goT func67 ?_
 have Z:=((((St.i0 F w).p h1).p h2).p h3).p h4
 have aa:=h1.max
 have ab:=h2.max
 have ac:=h3.max
 have ae:=h4.max
 refine .s<|.g<|RG.Np Z fun ah w Z=>RG.Np Z fun ai w Z=>.r 1<|.d<|.s<|.s<|.g<|.r 1<|RG.Lb 1 Z<|.r 1<|RG.Lb 0 Z<|RG.C0 (G6 a.names b.names (Z.a 3) (Z.a 1)) Z fun w Z=>?_
 cases af:(a.names==b.names)
 ·exact .r 1<|.d<|.ct<|.s<|.g<|.r 1<|.d<|T.rt func67 results67 (.bool false) ⟨(AG (by cases a; cases b; grind)),Z.xt⟩
 refine .r 1<|.d<|.cf<|.sk<|.s<|.s<|.g<|.r 1<|RG.Lb 1 Z<|.r 1<|RG.Lb 0 Z<|RG.C0 (K8 a.AY b.AY (Z.a 2) (Z.a 0)) Z fun w Z=>?_
 cases ag:(a.AY==b.AY)
 ·exact .r 1<|.d<|.ct<|.s<|.g<|.r 1<|.d<|T.rt func67 results67 (.bool false) ⟨(AG (by cases a; cases b; grind)),Z.xt⟩
 exact .r 1<|.d<|.cf<|.sk<|.s<|.g<|.r 1<|.d<|T.rt func67 results67 (.bool true) ⟨(AG (by cases a; cases b; grind)),Z.xt⟩
theorem F9 (a:Row) (b:Row){F:Nat→Prop}   : Calls Tryz.prog 46 [.agg #[.int .i64 a.t,.int .i64 a.v],.agg #[.int .i64 b.t,.int .i64 b.v]].toArray w (Ag fun rv w'=>rv=.bool ((a==b))∧Ext w w'):=by
 refine goT func46 ?_
 have Z:=St.i0 F w
 exact .s<|.g<|RG.Np Z fun ac w Z=>RG.Np Z fun ae w Z=>.r 1<|.d<|.s<|.s<|.g<|.r 1<|RG.Lb 1 Z<|.r 1<|RG.Lb 0 Z<|.ne a.t b.t (fun aa=>.d<|.ct<|.s<|.g<|.r 1<|.d<|T.rt func46 results46 (.bool false) ⟨(AG (by cases a; cases b; grind)),Z.xt⟩) fun aa=>.d<|.cf<|.sk<|.s<|.s<|.g<|.r 1<|RG.Lb 1 Z<|.r 1<|RG.Lb 0 Z<|.ne a.v b.v (fun ab=>.d<|.ct<|.s<|.g<|.r 1<|.d<|T.rt func46 results46 (.bool false) ⟨(AG (by cases a; cases b; grind)),Z.xt⟩) fun ab=>.d<|.cf<|.sk<|.s<|.g<|.r 1<|.d<|T.rt func46 results46 (.bool true) ⟨(AG (by cases a; cases b; grind)),Z.xt⟩
theorem Lc (a:List Row) (b:List Row) (h1:RepS w F a1 n1 c1 a) (h2:RepS w F a2 n2 c2 b)  : Calls Tryz.prog 218 [.slice a1 n1 c1,.slice a2 n2 c2].toArray w (Ag fun rv w'=>rv=.bool ((a==b))∧Ext w w'):=by
 cases h1.len
 cases h2.len
 refine goT func218 ?_
 have Z:=((St.i0 F w).p h1).p h2
 have ak:=h1.max
 refine .s<|.g<|.r 1<|.d<|.s<|.s<|.g<|.r 4<|.ne (a.length:Int) (b.length:Int) (fun ae=>.d<|.ct<|.s<|.g<|.r 1<|.d<|T.rt func218 results218 (.bool false) ⟨(AG (by grind [Aa])),Z.xt⟩) fun ae=>.d<|.cf<|.sk<|.s<|.s<|.g<|.r 1<|.d<|.b 0<|T.Lp (0:Nat) (fun i=>([(0,.slice a1 a.length c1),(1,.slice a2 b.length c2),(5,vI (i:Int))],[],[],a.length - i,(i≤a.length)∧(a.drop i=b.drop i↔a=b))) [] Z ⟨AD,AD⟩ ?_
 rintro i az w Z ⟨ao,aq⟩ ac
 refine .s<|.s<|.g<|.r 3<|.bp ((i:Int)< (a.length:Int)) (fun af=>?_) (fun af=>.d<|.cf<|.x 0 rfl<|.s<|.g<|.r 1<|.d<|T.rt func218 results218 (.bool true) ⟨(AG (by grind [Aa])),Z.xt⟩)
 refine .d<|.ct<|.sk<|.s<|.b 1<|.s<|T.Gd 8 Z fun w Z=>.r [0,1]<|gx a i fun ag aa=>?_
 have ar:=AZ aa
 refine GA.Ix 2 1 aa Z<|Z.el 1 aa fun Z=>GA.Lg 3 0 0 Z<|.r [4,5]<|gx b i fun ah ab=>?_
 have ax:=AZ ab
 refine GA.Ix 6 1 ab Z<|Z.el 1 ab fun Z=>GA.Lg 7 0 0 Z<|GA.Dn Z fun w Z=>RG.C0 (F9 ag ah (F:=all)) Z fun w Z=>?_
 cases ay:(ag==ah)
 ·exact .r 1<|.d<|.ct<|.s<|.g<|.r 1<|.d<|T.rt func218 results218 (.bool false) ⟨(AG (by grind [Aa])),Z.xt⟩
 exact .r 1<|.d<|.cf<|.sk<|.ib 1<|.g<|.r 1<|.it ((i:Int)+1)<|.r 1<|.d<|ac (i+1) _ _ AA (Z.to 0 [] 2) ⟨AB,(by grind)⟩ (by (simp only []; omega))
theorem LA (a:List (List Row)) (b:List (List Row)) (h1:RepS w F a1 n1 c1 a) (h2:RepS w F a2 n2 c2 b)  : Calls Tryz.prog 190 [.slice a1 n1 c1,.slice a2 n2 c2].toArray w (Ag fun rv w'=>rv=.bool ((a==b))∧Ext w w'):=by
 cases h1.len
 cases h2.len
 refine goT func190 ?_
 have Z:=((St.i0 F w).p h1).p h2
 have ak:=h1.max
 refine .s<|.g<|.r 1<|.d<|.s<|.s<|.g<|.r 4<|.ne (a.length:Int) (b.length:Int) (fun ae=>.d<|.ct<|.s<|.g<|.r 1<|.d<|T.rt func190 results190 (.bool false) ⟨(AG (by grind [Aa])),Z.xt⟩) fun ae=>.d<|.cf<|.sk<|.s<|.s<|.g<|.r 1<|.d<|.b 0<|T.Lp (0:Nat) (fun i=>([(0,.slice a1 a.length c1),(1,.slice a2 b.length c2),(5,vI (i:Int))],[],[],a.length - i,(i≤a.length)∧(a.drop i=b.drop i↔a=b))) [] Z ⟨AD,AD⟩ ?_
 rintro i az w Z ⟨ao,aq⟩ ac
 refine .s<|.s<|.g<|.r 3<|.bp ((i:Int)< (a.length:Int)) (fun af=>?_) (fun af=>.d<|.cf<|.x 0 rfl<|.s<|.g<|.r 1<|.d<|T.rt func190 results190 (.bool true) ⟨(AG (by grind [Aa])),Z.xt⟩)
 refine .d<|.ct<|.sk<|.s<|.b 1<|.s<|T.Gd 8 Z fun w Z=>.r [0,1]<|gx a i fun ag aa=>?_
 have ar:=AZ aa
 refine GA.Ix 2 1 aa Z<|Z.el 1 aa fun aA aB Z=>GA.Lh 3 0 0 Z<|.r [4,5]<|gx b i fun ah ab=>?_
 have ax:=AZ ab
 refine GA.Ix 6 2 ab Z<|Z.el 2 ab fun aC aD Z=>GA.Lh 7 0 0 Z<|GA.Dn Z fun w Z=>RG.C0 (Lc ag ah (Z.a 3) (Z.a 1)) Z fun w Z=>?_
 cases ay:(ag==ah)
 ·exact .r 1<|.d<|.ct<|.s<|.g<|.r 1<|.d<|T.rt func190 results190 (.bool false) ⟨(AG (by grind [Aa])),Z.xt⟩
 exact .r 1<|.d<|.cf<|.sk<|.ib 1<|.g<|.r 1<|.it ((i:Int)+1)<|.r 1<|.d<|ac (i+1) _ _ AA (Z.to 0 [] 4) ⟨AB,(by grind)⟩ (by (simp only []; omega))
theorem He (a:Prt) (b:Prt) (h1:RepS w F a1 n1 c1 a.ids) (h2:RepS w F a2 n2 c2 a.blocks) (h3:RepS w F a3 n3 c3 b.ids) (h4:RepS w F a4 n4 c4 b.blocks)  : Calls Tryz.prog 137 [.agg #[.slice a1 n1 c1,.slice a2 n2 c2],.agg #[.slice a3 n3 c3,.slice a4 n4 c4]].toArray w (Ag fun rv w'=>rv=.bool ((a==b))∧Ext w w'):=by
 cases h1.len
 cases h2.len
 cases h3.len
 cases h4.len
 refine goT func137 ?_
 have Z:=((((St.i0 F w).p h1).p h2).p h3).p h4
 have aa:=h1.max
 have ab:=h2.max
 have ac:=h3.max
 have ae:=h4.max
 refine .s<|.g<|RG.Np Z fun ah w Z=>RG.Np Z fun ai w Z=>.r 1<|.d<|.s<|.s<|.g<|.r 1<|RG.Lb 1 Z<|.r 1<|RG.Lb 0 Z<|RG.C0 (FK a.ids b.ids (Z.a 3) (Z.a 1)) Z fun w Z=>?_
 cases af:(a.ids==b.ids)
 ·exact .r 1<|.d<|.ct<|.s<|.g<|.r 1<|.d<|T.rt func137 results137 (.bool false) ⟨(AG (by cases a; cases b; grind)),Z.xt⟩
 refine .r 1<|.d<|.cf<|.sk<|.s<|.s<|.g<|.r 1<|RG.Lb 1 Z<|.r 1<|RG.Lb 0 Z<|RG.C0 (LA a.blocks b.blocks (Z.a 2) (Z.a 0)) Z fun w Z=>?_
 cases ag:(a.blocks==b.blocks)
 ·exact .r 1<|.d<|.ct<|.s<|.g<|.r 1<|.d<|T.rt func137 results137 (.bool false) ⟨(AG (by cases a; cases b; grind)),Z.xt⟩
 exact .r 1<|.d<|.cf<|.sk<|.s<|.g<|.r 1<|.d<|T.rt func137 results137 (.bool true) ⟨(AG (by cases a; cases b; grind)),Z.xt⟩
theorem LB (a:List Prt) (b:List Prt) (h1:RepS w F a1 n1 c1 a) (h2:RepS w F a2 n2 c2 b)  : Calls Tryz.prog 68 [.slice a1 n1 c1,.slice a2 n2 c2].toArray w (Ag fun rv w'=>rv=.bool ((a==b))∧Ext w w'):=by
 cases h1.len
 cases h2.len
 refine goT func68 ?_
 have Z:=((St.i0 F w).p h1).p h2
 have ak:=h1.max
 refine .s<|.g<|.r 1<|.d<|.s<|.s<|.g<|.r 4<|.ne (a.length:Int) (b.length:Int) (fun ae=>.d<|.ct<|.s<|.g<|.r 1<|.d<|T.rt func68 results68 (.bool false) ⟨(AG (by grind [Aa])),Z.xt⟩) fun ae=>.d<|.cf<|.sk<|.s<|.s<|.g<|.r 1<|.d<|.b 0<|T.Lp (0:Nat) (fun i=>([(0,.slice a1 a.length c1),(1,.slice a2 b.length c2),(5,vI (i:Int))],[],[],a.length - i,(i≤a.length)∧(a.drop i=b.drop i↔a=b))) [] Z ⟨AD,AD⟩ ?_
 rintro i az w Z ⟨ao,aq⟩ ac
 refine .s<|.s<|.g<|.r 3<|.bp ((i:Int)< (a.length:Int)) (fun af=>?_) (fun af=>.d<|.cf<|.x 0 rfl<|.s<|.g<|.r 1<|.d<|T.rt func68 results68 (.bool true) ⟨(AG (by grind [Aa])),Z.xt⟩)
 refine .d<|.ct<|.sk<|.s<|.b 1<|.s<|T.Gd 8 Z fun w Z=>.r [0,1]<|gx a i fun ag aa=>?_
 have ar:=AZ aa
 refine GA.Ix 2 1 aa Z<|Z.el 1 aa fun aA aB aC aD Z=>GA.Lg 3 0 0 Z<|.r [4,5]<|gx b i fun ah ab=>?_
 have ax:=AZ ab
 refine GA.Ix 6 3 ab Z<|Z.el 3 ab fun aE aF aG aH Z=>GA.Lg 7 0 0 Z<|GA.Dn Z fun w Z=>RG.C0 (He ag ah (Z.a 4) (Z.a 5) (Z.a 1) (Z.a 2)) Z fun w Z=>?_
 cases ay:(ag==ah)
 ·exact .r 1<|.d<|.ct<|.s<|.g<|.r 1<|.d<|T.rt func68 results68 (.bool false) ⟨(AG (by grind [Aa])),Z.xt⟩
 exact .r 1<|.d<|.cf<|.sk<|.ib 1<|.g<|.r 1<|.it ((i:Int)+1)<|.r 1<|.d<|ac (i+1) _ _ AA (Z.to 0 [] 6) ⟨AB,(by grind)⟩ (by (simp only []; omega))
theorem J6 (a:Smp) (b:Smp){F:Nat→Prop}   : Calls Tryz.prog 138 [.agg #[.int .i64 a.id,.int .i64 a.row.t,.int .i64 a.row.v],.agg #[.int .i64 b.id,.int .i64 b.row.t,.int .i64 b.row.v]].toArray w (Ag fun rv w'=>rv=.bool ((a==b))∧Ext w w'):=by
 refine goT func138 ?_
 have Z:=St.i0 F w
 refine .s<|.g<|RG.Np Z fun ac w Z=>RG.Np Z fun ae w Z=>.r 1<|.d<|.s<|.s<|.g<|.r 1<|RG.Lb 1 Z<|.r 1<|RG.Lb 0 Z<|.ne a.id b.id (fun aa=>.d<|.ct<|.s<|.g<|.r 1<|.d<|T.rt func138 results138 (.bool false) ⟨(AG (by cases a; cases b; grind)),Z.xt⟩) fun aa=>.d<|.cf<|.sk<|.s<|.s<|.g<|.r 1<|RG.Ln 1 Z<|.r 1<|RG.Ln 0 Z<|RG.C0 (F9 a.row b.row (F:=all)) Z fun w Z=>?_
 cases ab:(a.row==b.row)
 ·exact .r 1<|.d<|.ct<|.s<|.g<|.r 1<|.d<|T.rt func138 results138 (.bool false) ⟨(AG (by cases a; cases b; grind)),Z.xt⟩
 exact .r 1<|.d<|.cf<|.sk<|.s<|.g<|.r 1<|.d<|T.rt func138 results138 (.bool true) ⟨(AG (by cases a; cases b; grind)),Z.xt⟩
theorem JR (a:List Smp) (b:List Smp) (h1:RepS w F a1 n1 c1 a) (h2:RepS w F a2 n2 c2 b)  : Calls Tryz.prog 69 [.slice a1 n1 c1,.slice a2 n2 c2].toArray w (Ag fun rv w'=>rv=.bool ((a==b))∧Ext w w'):=by
 cases h1.len
 cases h2.len
 refine goT func69 ?_
 have Z:=((St.i0 F w).p h1).p h2
 have ak:=h1.max
 refine .s<|.g<|.r 1<|.d<|.s<|.s<|.g<|.r 4<|.ne (a.length:Int) (b.length:Int) (fun ae=>.d<|.ct<|.s<|.g<|.r 1<|.d<|T.rt func69 results69 (.bool false) ⟨(AG (by grind [Aa])),Z.xt⟩) fun ae=>.d<|.cf<|.sk<|.s<|.s<|.g<|.r 1<|.d<|.b 0<|T.Lp (0:Nat) (fun i=>([(0,.slice a1 a.length c1),(1,.slice a2 b.length c2),(5,vI (i:Int))],[],[],a.length - i,(i≤a.length)∧(a.drop i=b.drop i↔a=b))) [] Z ⟨AD,AD⟩ ?_
 rintro i az w Z ⟨ao,aq⟩ ac
 refine .s<|.s<|.g<|.r 3<|.bp ((i:Int)< (a.length:Int)) (fun af=>?_) (fun af=>.d<|.cf<|.x 0 rfl<|.s<|.g<|.r 1<|.d<|T.rt func69 results69 (.bool true) ⟨(AG (by grind [Aa])),Z.xt⟩)
 refine .d<|.ct<|.sk<|.s<|.b 1<|.s<|T.Gd 8 Z fun w Z=>.r [0,1]<|gx a i fun ag aa=>?_
 have ar:=AZ aa
 refine GA.Ix 2 1 aa Z<|Z.el 1 aa fun Z=>GA.Lg 3 0 0 Z<|.r [4,5]<|gx b i fun ah ab=>?_
 have ax:=AZ ab
 refine GA.Ix 6 1 ab Z<|Z.el 1 ab fun Z=>GA.Lg 7 0 0 Z<|GA.Dn Z fun w Z=>RG.C0 (J6 ag ah (F:=all)) Z fun w Z=>?_
 cases ay:(ag==ah)
 ·exact .r 1<|.d<|.ct<|.s<|.g<|.r 1<|.d<|T.rt func69 results69 (.bool false) ⟨(AG (by grind [Aa])),Z.xt⟩
 exact .r 1<|.d<|.cf<|.sk<|.ib 1<|.g<|.r 1<|.it ((i:Int)+1)<|.r 1<|.d<|ac (i+1) _ _ AA (Z.to 0 [] 2) ⟨AB,(by grind)⟩ (by (simp only []; omega))
theorem LC (a:Sto) (b:Sto) (h1:RepS w F a1 n1 c1 a.idx.names) (h2:RepS w F a2 n2 c2 a.idx.AY) (h3:RepS w F a3 n3 c3 a.parts) (h4:RepS w F a4 n4 c4 a.mem) (h5:RepS w F a5 n5 c5 b.idx.names) (h6:RepS w F a6 n6 c6 b.idx.AY) (h7:RepS w F a7 n7 c7 b.parts) (h8:RepS w F a8 n8 c8 b.mem)  : Calls Tryz.prog 27 [.agg #[.slice a1 n1 c1,.slice a2 n2 c2,.slice a3 n3 c3,.slice a4 n4 c4],.agg #[.slice a5 n5 c5,.slice a6 n6 c6,.slice a7 n7 c7,.slice a8 n8 c8]].toArray w (Ag fun rv w'=>rv=.bool ((a==b))∧Ext w w'):=by
 cases h1.len
 cases h2.len
 cases h3.len
 cases h4.len
 cases h5.len
 cases h6.len
 cases h7.len
 cases h8.len
 refine goT func27 ?_
 have Z:=((((((((St.i0 F w).p h1).p h2).p h3).p h4).p h5).p h6).p h7).p h8
 have aa:=h1.max
 have ab:=h2.max
 have ac:=h3.max
 have ae:=h4.max
 have af:=h5.max
 have ag:=h6.max
 have ah:=h7.max
 have ai:=h8.max
 refine .s<|.g<|RG.Np Z fun ao w Z=>RG.Np Z fun aq w Z=>.r 1<|.d<|.s<|.s<|.g<|.r 1<|RG.Ln 1 Z<|.r 1<|RG.Ln 0 Z<|RG.C0 (K9 a.idx b.idx (Z.a 7) (Z.a 6) (Z.a 3) (Z.a 2)) Z fun w Z=>?_
 cases aj:(a.idx==b.idx)
 ·exact .r 1<|.d<|.ct<|.s<|.g<|.r 1<|.d<|T.rt func27 results27 (.bool false) ⟨(AG (by cases a; cases b; grind)),Z.xt⟩
 refine .r 1<|.d<|.cf<|.sk<|.s<|.s<|.g<|.r 1<|RG.Lb 1 Z<|.r 1<|RG.Lb 0 Z<|RG.C0 (LB a.parts b.parts (Z.a 5) (Z.a 1)) Z fun w Z=>?_
 cases ak:(a.parts==b.parts)
 ·exact .r 1<|.d<|.ct<|.s<|.g<|.r 1<|.d<|T.rt func27 results27 (.bool false) ⟨(AG (by cases a; cases b; grind)),Z.xt⟩
 refine .r 1<|.d<|.cf<|.sk<|.s<|.s<|.g<|.r 1<|RG.Lb 1 Z<|.r 1<|RG.Lb 0 Z<|RG.C0 (JR a.mem b.mem (Z.a 4) (Z.a 0)) Z fun w Z=>?_
 cases am:(a.mem==b.mem)
 ·exact .r 1<|.d<|.ct<|.s<|.g<|.r 1<|.d<|T.rt func27 results27 (.bool false) ⟨(AG (by cases a; cases b; grind)),Z.xt⟩
 exact .r 1<|.d<|.cf<|.sk<|.s<|.g<|.r 1<|.d<|T.rt func27 results27 (.bool true) ⟨(AG (by cases a; cases b; grind)),Z.xt⟩
theorem Ld (a:Fil) (b:Fil) (h1:RepS w F a1 n1 c1 a.part.ids) (h2:RepS w F a2 n2 c2 a.part.blocks) (h3:RepS w F a3 n3 c3 b.part.ids) (h4:RepS w F a4 n4 c4 b.part.blocks)  : Calls Tryz.prog 139 [.agg #[.int .i64 a.num,.slice a1 n1 c1,.slice a2 n2 c2],.agg #[.int .i64 b.num,.slice a3 n3 c3,.slice a4 n4 c4]].toArray w (Ag fun rv w'=>rv=.bool ((a==b))∧Ext w w'):=by
 cases h1.len
 cases h2.len
 cases h3.len
 cases h4.len
 refine goT func139 ?_
 have Z:=((((St.i0 F w).p h1).p h2).p h3).p h4
 have ab:=h1.max
 have ac:=h2.max
 have ae:=h3.max
 have af:=h4.max
 refine .s<|.g<|RG.Np Z fun ah w Z=>RG.Np Z fun ai w Z=>.r 1<|.d<|.s<|.s<|.g<|.r 1<|RG.Lb 1 Z<|.r 1<|RG.Lb 0 Z<|.ne a.num b.num (fun aa=>.d<|.ct<|.s<|.g<|.r 1<|.d<|T.rt func139 results139 (.bool false) ⟨(AG (by cases a; cases b; grind)),Z.xt⟩) fun aa=>.d<|.cf<|.sk<|.s<|.s<|.g<|.r 1<|RG.Ln 1 Z<|.r 1<|RG.Ln 0 Z<|RG.C0 (He a.part b.part (Z.a 3) (Z.a 2) (Z.a 1) (Z.a 0)) Z fun w Z=>?_
 cases ag:(a.part==b.part)
 ·exact .r 1<|.d<|.ct<|.s<|.g<|.r 1<|.d<|T.rt func139 results139 (.bool false) ⟨(AG (by cases a; cases b; grind)),Z.xt⟩
 exact .r 1<|.d<|.cf<|.sk<|.s<|.g<|.r 1<|.d<|T.rt func139 results139 (.bool true) ⟨(AG (by cases a; cases b; grind)),Z.xt⟩
theorem LD (a:List Fil) (b:List Fil) (h1:RepS w F a1 n1 c1 a) (h2:RepS w F a2 n2 c2 b)  : Calls Tryz.prog 70 [.slice a1 n1 c1,.slice a2 n2 c2].toArray w (Ag fun rv w'=>rv=.bool ((a==b))∧Ext w w'):=by
 cases h1.len
 cases h2.len
 refine goT func70 ?_
 have Z:=((St.i0 F w).p h1).p h2
 have ak:=h1.max
 refine .s<|.g<|.r 1<|.d<|.s<|.s<|.g<|.r 4<|.ne (a.length:Int) (b.length:Int) (fun ae=>.d<|.ct<|.s<|.g<|.r 1<|.d<|T.rt func70 results70 (.bool false) ⟨(AG (by grind [Aa])),Z.xt⟩) fun ae=>.d<|.cf<|.sk<|.s<|.s<|.g<|.r 1<|.d<|.b 0<|T.Lp (0:Nat) (fun i=>([(0,.slice a1 a.length c1),(1,.slice a2 b.length c2),(5,vI (i:Int))],[],[],a.length - i,(i≤a.length)∧(a.drop i=b.drop i↔a=b))) [] Z ⟨AD,AD⟩ ?_
 rintro i az w Z ⟨ao,aq⟩ ac
 refine .s<|.s<|.g<|.r 3<|.bp ((i:Int)< (a.length:Int)) (fun af=>?_) (fun af=>.d<|.cf<|.x 0 rfl<|.s<|.g<|.r 1<|.d<|T.rt func70 results70 (.bool true) ⟨(AG (by grind [Aa])),Z.xt⟩)
 refine .d<|.ct<|.sk<|.s<|.b 1<|.s<|T.Gd 8 Z fun w Z=>.r [0,1]<|gx a i fun ag aa=>?_
 have ar:=AZ aa
 refine GA.Ix 2 1 aa Z<|Z.el 1 aa fun aA aB aC aD Z=>GA.Lg 3 0 0 Z<|.r [4,5]<|gx b i fun ah ab=>?_
 have ax:=AZ ab
 refine GA.Ix 6 3 ab Z<|Z.el 3 ab fun aE aF aG aH Z=>GA.Lg 7 0 0 Z<|GA.Dn Z fun w Z=>RG.C0 (Ld ag ah (Z.a 4) (Z.a 5) (Z.a 1) (Z.a 2)) Z fun w Z=>?_
 cases ay:(ag==ah)
 ·exact .r 1<|.d<|.ct<|.s<|.g<|.r 1<|.d<|T.rt func70 results70 (.bool false) ⟨(AG (by grind [Aa])),Z.xt⟩
 exact .r 1<|.d<|.cf<|.sk<|.ib 1<|.g<|.r 1<|.it ((i:Int)+1)<|.r 1<|.d<|ac (i+1) _ _ AA (Z.to 0 [] 6) ⟨AB,(by grind)⟩ (by (simp only []; omega))
theorem Li (a:Dsk) (b:Dsk) (h1:RepS w F a1 n1 c1 a.files) (h2:RepS w F a2 n2 c2 a.list) (h3:RepS w F a3 n3 c3 a.names) (h4:RepS w F a4 n4 c4 b.files) (h5:RepS w F a5 n5 c5 b.list) (h6:RepS w F a6 n6 c6 b.names)  : Calls Tryz.prog 28 [.agg #[.slice a1 n1 c1,.slice a2 n2 c2,.slice a3 n3 c3,.int .i64 a.next],.agg #[.slice a4 n4 c4,.slice a5 n5 c5,.slice a6 n6 c6,.int .i64 b.next]].toArray w (Ag fun rv w'=>rv=.bool ((a==b))∧Ext w w'):=by
 cases h1.len
 cases h2.len
 cases h3.len
 cases h4.len
 cases h5.len
 cases h6.len
 refine goT func28 ?_
 have Z:=((((((St.i0 F w).p h1).p h2).p h3).p h4).p h5).p h6
 have ab:=h1.max
 have ac:=h2.max
 have ae:=h3.max
 have af:=h4.max
 have ag:=h5.max
 have ah:=h6.max
 refine .s<|.g<|RG.Np Z fun am w Z=>RG.Np Z fun ao w Z=>.r 1<|.d<|.s<|.s<|.g<|.r 1<|RG.Lb 1 Z<|.r 1<|RG.Lb 0 Z<|RG.C0 (LD a.files b.files (Z.a 5) (Z.a 2)) Z fun w Z=>?_
 cases ai:(a.files==b.files)
 ·exact .r 1<|.d<|.ct<|.s<|.g<|.r 1<|.d<|T.rt func28 results28 (.bool false) ⟨(AG (by cases a; cases b; grind)),Z.xt⟩
 refine .r 1<|.d<|.cf<|.sk<|.s<|.s<|.g<|.r 1<|RG.Lb 1 Z<|.r 1<|RG.Lb 0 Z<|RG.C0 (FK a.list b.list (Z.a 4) (Z.a 1)) Z fun w Z=>?_
 cases aj:(a.list==b.list)
 ·exact .r 1<|.d<|.ct<|.s<|.g<|.r 1<|.d<|T.rt func28 results28 (.bool false) ⟨(AG (by cases a; cases b; grind)),Z.xt⟩
 refine .r 1<|.d<|.cf<|.sk<|.s<|.s<|.g<|.r 1<|RG.Lb 1 Z<|.r 1<|RG.Lb 0 Z<|RG.C0 (G6 a.names b.names (Z.a 3) (Z.a 0)) Z fun w Z=>?_
 cases ak:(a.names==b.names)
 ·exact .r 1<|.d<|.ct<|.s<|.g<|.r 1<|.d<|T.rt func28 results28 (.bool false) ⟨(AG (by cases a; cases b; grind)),Z.xt⟩
 exact .r 1<|.d<|.cf<|.sk<|.s<|.s<|.g<|.r 1<|RG.Lb 1 Z<|.r 1<|RG.Lb 0 Z<|.ne a.next b.next (fun aa=>.d<|.ct<|.s<|.g<|.r 1<|.d<|T.rt func28 results28 (.bool false) ⟨(AG (by cases a; cases b; grind)),Z.xt⟩) fun aa=>.d<|.cf<|.sk<|.s<|.g<|.r 1<|.d<|T.rt func28 results28 (.bool true) ⟨(AG (by cases a; cases b; grind)),Z.xt⟩
theorem LF (a:Wld) (b:Wld) (h1:RepS w F a1 n1 c1 a.store.idx.names) (h2:RepS w F a2 n2 c2 a.store.idx.AY) (h3:RepS w F a3 n3 c3 a.store.parts) (h4:RepS w F a4 n4 c4 a.store.mem) (h5:RepS w F a5 n5 c5 a.disk.files) (h6:RepS w F a6 n6 c6 a.disk.list) (h7:RepS w F a7 n7 c7 a.disk.names) (h8:RepS w F a8 n8 c8 b.store.idx.names) (h9:RepS w F a9 n9 c9 b.store.idx.AY) (h10:RepS w F a10 n10 c10 b.store.parts) (h11:RepS w F a11 n11 c11 b.store.mem) (h12:RepS w F a12 n12 c12 b.disk.files) (h13:RepS w F a13 n13 c13 b.disk.list) (h14:RepS w F a14 n14 c14 b.disk.names)  : Calls Tryz.prog 9 [.agg #[.slice a1 n1 c1,.slice a2 n2 c2,.slice a3 n3 c3,.slice a4 n4 c4,.slice a5 n5 c5,.slice a6 n6 c6,.slice a7 n7 c7,.int .i64 a.disk.next],.agg #[.slice a8 n8 c8,.slice a9 n9 c9,.slice a10 n10 c10,.slice a11 n11 c11,.slice a12 n12 c12,.slice a13 n13 c13,.slice a14 n14 c14,.int .i64 b.disk.next]].toArray w (Ag fun rv w'=>rv=.bool ((a==b))∧Ext w w'):=by
 cases h1.len
 cases h2.len
 cases h3.len
 cases h4.len
 cases h5.len
 cases h6.len
 cases h7.len
 cases h8.len
 cases h9.len
 cases h10.len
 cases h11.len
 cases h12.len
 cases h13.len
 cases h14.len
 refine goT func9 ?_
 have Z:=((((((((((((((St.i0 F w).p h1).p h2).p h3).p h4).p h5).p h6).p h7).p h8).p h9).p h10).p h11).p h12).p h13).p h14
 have aa:=h1.max
 have ab:=h2.max
 have ac:=h3.max
 have ae:=h4.max
 have af:=h5.max
 have ag:=h6.max
 have ah:=h7.max
 have ai:=h8.max
 have aj:=h9.max
 have ak:=h10.max
 have am:=h11.max
 have ao:=h12.max
 have aq:=h13.max
 have ar:=h14.max
 refine .s<|.g<|RG.Np Z fun az w Z=>RG.Np Z fun aA w Z=>.r 1<|.d<|.s<|.s<|.g<|.r 1<|RG.Ln 1 Z<|.r 1<|RG.Ln 0 Z<|RG.C0 (LC a.store b.store (Z.a 13) (Z.a 12) (Z.a 11) (Z.a 10) (Z.a 6) (Z.a 5) (Z.a 4) (Z.a 3)) Z fun w Z=>?_
 cases ax:(a.store==b.store)
 ·exact .r 1<|.d<|.ct<|.s<|.g<|.r 1<|.d<|T.rt func9 results9 (.bool false) ⟨(AG (by cases a; cases b; grind)),Z.xt⟩
 refine .r 1<|.d<|.cf<|.sk<|.s<|.s<|.g<|.r 1<|RG.Ln 1 Z<|.r 1<|RG.Ln 0 Z<|RG.C0 (Li a.disk b.disk (Z.a 9) (Z.a 8) (Z.a 7) (Z.a 2) (Z.a 1) (Z.a 0)) Z fun w Z=>?_
 cases ay:(a.disk==b.disk)
 ·exact .r 1<|.d<|.ct<|.s<|.g<|.r 1<|.d<|T.rt func9 results9 (.bool false) ⟨(AG (by cases a; cases b; grind)),Z.xt⟩
 exact .r 1<|.d<|.cf<|.sk<|.s<|.g<|.r 1<|.d<|T.rt func9 results9 (.bool true) ⟨(AG (by cases a; cases b; grind)),Z.xt⟩
theorem LG (a:Evt) (b:Evt) (h1:RepS w F a1 n1 c1 a.name) (h2:RepS w F a2 n2 c2 b.name)  : Calls Tryz.prog 20 [.agg #[.int .i64 a.kind,.int .i64 a.at_,.int .i64 a.cut,.slice a1 n1 c1,.int .i64 a.row.t,.int .i64 a.row.v],.agg #[.int .i64 b.kind,.int .i64 b.at_,.int .i64 b.cut,.slice a2 n2 c2,.int .i64 b.row.t,.int .i64 b.row.v]].toArray w (Ag fun rv w'=>rv=.bool ((a==b))∧Ext w w'):=by
 cases h1.len
 cases h2.len
 refine goT func20 ?_
 have Z:=((St.i0 F w).p h1).p h2
 have ae:=h1.max
 have af:=h2.max
 refine .s<|.g<|RG.Np Z fun ai w Z=>RG.Np Z fun aj w Z=>.r 1<|.d<|.s<|.s<|.g<|.r 1<|RG.Lb 1 Z<|.r 1<|RG.Lb 0 Z<|.ne a.kind b.kind (fun aa=>.d<|.ct<|.s<|.g<|.r 1<|.d<|T.rt func20 results20 (.bool false) ⟨(AG (by cases a; cases b; grind)),Z.xt⟩) fun aa=>.d<|.cf<|.sk<|.s<|.s<|.g<|.r 1<|RG.Lb 1 Z<|.r 1<|RG.Lb 0 Z<|.ne a.at_ b.at_ (fun ab=>.d<|.ct<|.s<|.g<|.r 1<|.d<|T.rt func20 results20 (.bool false) ⟨(AG (by cases a; cases b; grind)),Z.xt⟩) fun ab=>.d<|.cf<|.sk<|.s<|.s<|.g<|.r 1<|RG.Lb 1 Z<|.r 1<|RG.Lb 0 Z<|.ne a.cut b.cut (fun ac=>.d<|.ct<|.s<|.g<|.r 1<|.d<|T.rt func20 results20 (.bool false) ⟨(AG (by cases a; cases b; grind)),Z.xt⟩) fun ac=>.d<|.cf<|.sk<|.s<|.s<|.g<|.r 1<|RG.Lb 1 Z<|.r 1<|RG.Lb 0 Z<|RG.C0 (Hc a.name b.name (Z.a 1) (Z.a 0)) Z fun w Z=>?_
 cases ag:(a.name==b.name)
 ·exact .r 1<|.d<|.ct<|.s<|.g<|.r 1<|.d<|T.rt func20 results20 (.bool false) ⟨(AG (by cases a; cases b; grind)),Z.xt⟩
 refine .r 1<|.d<|.cf<|.sk<|.s<|.s<|.g<|.r 1<|RG.Ln 1 Z<|.r 1<|RG.Ln 0 Z<|RG.C0 (F9 a.row b.row (F:=all)) Z fun w Z=>?_
 cases ah:(a.row==b.row)
 ·exact .r 1<|.d<|.ct<|.s<|.g<|.r 1<|.d<|T.rt func20 results20 (.bool false) ⟨(AG (by cases a; cases b; grind)),Z.xt⟩
 exact .r 1<|.d<|.cf<|.sk<|.s<|.g<|.r 1<|.d<|T.rt func20 results20 (.bool true) ⟨(AG (by cases a; cases b; grind)),Z.xt⟩
theorem J7 (a:List Evt) (b:List Evt) (h1:RepS w F a1 n1 c1 a) (h2:RepS w F a2 n2 c2 b)  : Calls Tryz.prog 10 [.slice a1 n1 c1,.slice a2 n2 c2].toArray w (Ag fun rv w'=>rv=.bool ((a==b))∧Ext w w'):=by
 cases h1.len
 cases h2.len
 refine goT func10 ?_
 have Z:=((St.i0 F w).p h1).p h2
 have ak:=h1.max
 refine .s<|.g<|.r 1<|.d<|.s<|.s<|.g<|.r 4<|.ne (a.length:Int) (b.length:Int) (fun ae=>.d<|.ct<|.s<|.g<|.r 1<|.d<|T.rt func10 results10 (.bool false) ⟨(AG (by grind [Aa])),Z.xt⟩) fun ae=>.d<|.cf<|.sk<|.s<|.s<|.g<|.r 1<|.d<|.b 0<|T.Lp (0:Nat) (fun i=>([(0,.slice a1 a.length c1),(1,.slice a2 b.length c2),(5,vI (i:Int))],[],[],a.length - i,(i≤a.length)∧(a.drop i=b.drop i↔a=b))) [] Z ⟨AD,AD⟩ ?_
 rintro i az w Z ⟨ao,aq⟩ ac
 refine .s<|.s<|.g<|.r 3<|.bp ((i:Int)< (a.length:Int)) (fun af=>?_) (fun af=>.d<|.cf<|.x 0 rfl<|.s<|.g<|.r 1<|.d<|T.rt func10 results10 (.bool true) ⟨(AG (by grind [Aa])),Z.xt⟩)
 refine .d<|.ct<|.sk<|.s<|.b 1<|.s<|T.Gd 8 Z fun w Z=>.r [0,1]<|gx a i fun ag aa=>?_
 have ar:=AZ aa
 refine GA.Ix 2 1 aa Z<|Z.el 1 aa fun aA aB Z=>GA.Lg 3 0 0 Z<|.r [4,5]<|gx b i fun ah ab=>?_
 have ax:=AZ ab
 refine GA.Ix 6 2 ab Z<|Z.el 2 ab fun aC aD Z=>GA.Lg 7 0 0 Z<|GA.Dn Z fun w Z=>RG.C0 (LG ag ah (Z.a 3) (Z.a 1)) Z fun w Z=>?_
 cases ay:(ag==ah)
 ·exact .r 1<|.d<|.ct<|.s<|.g<|.r 1<|.d<|T.rt func10 results10 (.bool false) ⟨(AG (by grind [Aa])),Z.xt⟩
 exact .r 1<|.d<|.cf<|.sk<|.ib 1<|.g<|.r 1<|.it ((i:Int)+1)<|.r 1<|.d<|ac (i+1) _ _ AA (Z.to 0 [] 4) ⟨AB,(by grind)⟩ (by (simp only []; omega))
end Go.Proofs.YtcginoabkicdiaaGreat
namespace Go.Proofs.YtcginoabkicdiaaGreat
set_option maxRecDepth 100000
set_option maxHeartbeats 4000000
variable {w:World} {F:Nat→Prop} {a1:Option Addr} {n1 c1:Nat}
theorem Lj (a:List Tag) (h1:RepS w F a1 n1 c1 a) (p0:a.length≤1100000):Calls Tryz.prog 40 [.slice a1 n1 c1].toArray w (Ag fun rv w'=>VA w.heap.size w' (a:List Tag) rv∧Ext w w'):=by
 cases h1.len
 refine goT func40 ?_
 have Z:=(St.i0 F w).p h1
 have Z:=Z.s0 0
 refine .s<|.g<|.r 1<|.d<|.s<|.g<|.r 2<|RG.Mk (hb:=AB) 0 (⟨([]:Str),([]:Str)⟩:Tag) a.length (fun _ _=>fn_) Z fun ae w Z=>.r 1<|.d<|.s<|.s<|.g<|.r 1<|.d<|.b 0<|T.Lp ((0:Nat),(List.replicate a.length (⟨([]:Str),([]:Str)⟩:Tag))) (fun (i,xs)=>([(0,.slice a1 a.length c1),(3,vS ae a.length a.length),(4,vI (i:Int))],[(0,.own 0 ae 118 a.length xs)],[],a.length - i,(i≤a.length)∧(xs.length=a.length)∧(xs.take i=a.take i))) [] Z ⟨AB,AD,AD⟩ ?_
 rintro ⟨i,xs⟩ ax w Z ⟨ak,am,ao⟩ ac
 refine .s<|.s<|.g<|.r 3<|.bp ((i:Int)< (a.length:Int)) (fun ag=>?_) (fun ag=>?_)
 ·refine .d<|.ct<|.sk<|.s<|.b 1<|.g<|.r 4<|gx a i fun af ab=>?_
  refine RG.Ix 1 ab Z<|Z.el 1 ab fun Z=>RG.Lg 0 0 Z<|RG.CS (NQ af (F:=all)) Z fun  w Z=>gx xs i fun ay aa=>?_
  exact RG.Ko 0 a.length (i:Int) aa Z<|Z.eo 0 aa fun Z=>RG.Se 0 0 0 aa af [] Z fun w Z=>.d<|.ib 1<|.g<|.r 1<|.it ((i:Int)+1)<|.r 1<|.d<|ac (i+1,(xs.set i af)) _ _ AA (Z.to 0 [] 1) ⟨AB,(by (simp; omega)),(by exact P8 ‹_› ‹_› ‹_›)⟩ (by (simp only []; omega))
 refine .d<|.cf<|.x 0 rfl<|.s<|.g<|.r 2<|.d ?_
 obtain rfl:a=xs:=Ru ‹_› ‹_› AB
 exact T.Rt func40 results40 ⟨(Z.fL 0 0 0 a).rA 1 [0] a (some ⟨ae,0,none⟩) a.length AF,(Z.fL 0 0 0 a).xt⟩
theorem LH (a:Evt) (h1:RepS w F a1 n1 c1 a.name) (p0:a.name.length≤1100000):Calls Tryz.prog 18 [.agg #[.int .i64 a.kind,.int .i64 a.at_,.int .i64 a.cut,.slice a1 n1 c1,.int .i64 a.row.t,.int .i64 a.row.v]].toArray w (Ag fun rv w'=>VD w.heap.size w' (a:Evt) rv∧Ext w w'):=by
 cases h1.len
 refine goT func18 ?_
 have Z:=(St.i0 F w).p h1
 have Z:=Z.s0 0
 exact .s<|.g<|RG.Np Z fun ae w Z=>RG.Np Z fun af w Z=>.d<|.s<|.g<|RG.Np Z fun ag w Z=>.d<|.s<|.g<|.r 1<|RG.Lb 2 Z<|.r 1<|RG.Ss 0 Z fun w Z=>.d<|.s<|.g<|.r 1<|RG.Lb 2 Z<|.r 1<|RG.Ss 0 Z fun w Z=>.d<|.s<|.g<|.r 1<|RG.Lb 2 Z<|.r 1<|RG.Ss 0 Z fun w Z=>.d<|.s<|.g<|.r 1<|RG.Lb 2 Z<|RG.DA 0 0 (Lj a.name (Z.a 1) p0) Z fun aa ab w Z=>.r 1<|RG.Ss 0 Z fun w Z=>.d<|.s<|.g<|.r 1<|RG.Ln 2 Z<|RG.CS (NR a.row (F:=all)) Z fun  w Z=>.r 1<|RG.Ss 0 Z fun w Z=>.d<|.s<|.g<|RG.Ln 0 Z<|RG.Ss 1 Z fun w Z=>.d<|T.Rb 1 func18 results18 Z ⟨Z.rD 0 [0] a [(aa,ab)] rfl,Z.xt⟩
theorem DY (a:List Evt) (h1:RepS w F a1 n1 c1 a) (p0:W4 a):Calls Tryz.prog 7 [.slice a1 n1 c1].toArray w (Ag fun rv w'=>VA w.heap.size w' (a:List Evt) rv∧Ext w w'):=by
 cases h1.len
 refine goT func7 ?_
 have Z:=(St.i0 F w).p h1
 have aj:=h1.max
 have Z:=Z.s0 0
 refine .s<|.g<|.r 1<|.d<|.s<|.g<|.r 2<|RG.Mr (hb:=(by (have q1:=p0.1; omega))) 0 0 5 (⟨(0:Int),(0:Int),(0:Int),([]:List Tag),(⟨(0:Int),(0:Int)⟩:Row)⟩:Evt) a.length (fun _ _=>(fc (RepS.By _ _ none 0 AE) fn_)) (fun _ _=>Lf.mk_ (x:=(⟨(0:Int),(0:Int),(0:Int),([]:List Tag),(⟨(0:Int),(0:Int)⟩:Row)⟩:Evt)) [(none,0)] rfl (itN trivial)) AA Z fun ag w Z=>.r 1<|.d<|.s<|.s<|.g<|.r 1<|.d<|.b 0<|T.Lp ((0:Nat),(List.replicate a.length (⟨(0:Int),(0:Int),(0:Int),([]:List Tag),(⟨(0:Int),(0:Int)⟩:Row)⟩:Evt)),(List.replicate a.length (⟨Shp.cells (⟨(0:Int),(0:Int),(0:Int),([]:List Tag),(⟨(0:Int),(0:Int)⟩:Row)⟩:Evt) [],AA⟩:Hd 5))) (fun (i,xs,hs)=>([(0,.slice a1 a.length c1),(3,vS ag a.length a.length),(4,vI (i:Int))],[(0,.raw 0 ag 72 a.length xs hs)],[⟨0,none,.sep [.e xs hs]⟩],a.length - i,(i≤a.length)∧(xs.length=a.length)∧(xs.take i=a.take i))) [0] Z ⟨AB,AD,AD⟩ ?_
 rintro ⟨i,xs,hs⟩ ar w Z ⟨ak,am,ao⟩ ac
 refine .s<|.s<|.g<|.r 3<|.bp ((i:Int)< (a.length:Int)) (fun ah=>?_) (fun ah=>?_)
 ·refine .d<|.ct<|.sk<|.s<|.b 1<|.g<|.r 4<|gx a i fun aa ab=>?_
  have ai:=AV ab
  refine RG.Ix 3 ab Z<|Z.el 3 ab fun ax ay Z=>RG.Lg 0 0 Z<|RG.DD 2 0 (LH aa (Z.a 1) (p0.2 _ ‹_›)) Z fun ae af w Z=>RG.Kr (k:=5) 0 a.length i (i:Int) Z<|RG.Sr 0 i xs aa hs (⟨Shp.cells aa ([(ae,af)]:List (Option Addr × Nat)),AA⟩:Hd 5) Z fun w Z=>?_
  have Z:=Z.eS 0 0 [1,1] i xs hs (⟨Shp.cells aa ([(ae,af)]:List (Option Addr × Nat)),AA⟩:Hd 5) aa ([(ae,af)]:List (Option Addr × Nat))
  refine .d<|.ib 1<|.g<|.r 1<|.it ((i:Int)+1)<|.r 1<|.d ?_
  have Z:=Z.sM 0 0 [0] [.e (xs.set i aa) (hs.set i (⟨Shp.cells aa ([(ae,af)]:List (Option Addr × Nat)),AA⟩:Hd 5))]
  exact ac (i+1,(xs.set i aa),(hs.set i (⟨Shp.cells aa ([(ae,af)]:List (Option Addr × Nat)),AA⟩:Hd 5))) _ _ AA (Z.to 0 [0] 7) ⟨AB,(by (simp; omega)),(by exact P8 ‹_› ‹_› ‹_›)⟩ (by (simp only []; omega))
 refine .d<|.cf<|.x 0 rfl<|.s<|.g<|.r 2<|.d ?_
 obtain rfl:a=xs:=Ru ‹_› ‹_› AB
 exact T.Rt func7 results7 ⟨(Z.eL 0 0 0 [0] a hs).rA 1 [0] a (some ⟨ag,0,none⟩) a.length AF,(Z.eL 0 0 0 [0] a hs).xt⟩
end Go.Proofs.YtcginoabkicdiaaGreat
namespace Go.Proofs.YtcginoabkicdiaaGreat
set_option maxRecDepth 100000
set_option maxHeartbeats 4000000
variable {w:World} {F:Nat→Prop}
theorem Bv (k:Int){F:Nat→Prop}  (p0:k≤9223372036854775807):Calls Tryz.prog 73 [.int .i64 k].toArray w (Ag fun rv w'=>rv=.string (bs (mtx k))∧Ext w w'):=by
 refine goT func73 ?_
 have Z:=St.i0 F w
 refine .s<|.g<|.r 1<|.d<|.s<|.s<|.g<|.r 1<|.bp (k≤0) (fun af=>.d<|.ct<|.s<|.g<|.r 1<|.d<|T.rt func73 results73 (.string (bs [109,48])) ⟨(congrArg (fun s=>Value.string (bs s)) (by (unfold mtx; rw [if_pos ‹_›]))),Z.xt⟩) fun af=>.d<|.cf<|.sk<|.s<|.g<|.r 1<|.d<|.s<|.b 0<|T.Lp (k,[]) (fun (k1,out)=>([(0,vI k1),(3,vT out)],[],[],k1.toNat,(0≤k1)∧(k1≤9223372036854775807)∧(FI k1.toNat++out=FI k.toNat))) [] Z ⟨AB,AB,AD⟩ ?_
 rintro ⟨k1,out⟩ ao w Z ⟨aj,ak,am⟩ ac
 refine .s<|.s<|.g<|.r 1<|.bp (k1 > 0) (fun ag=>?_) (fun ag=>.d<|.cf<|.x 0 rfl<|.s<|.g<|.r 1<|RG.cat (t:=9) (s:=[109]) (u:=out) AA (by have q1:=N3 p0; have q2:=congrArg List.length (by assumption:FI k1.toNat++out=FI k.toNat); rw [List.length_append] at q2; simp only [List.length_cons,List.length_nil]; omega)<|.r 1<|.d<|T.rt func73 results73 (.string (bs ([109]++out))) ⟨(congrArg (fun s=>Value.string (bs s)) (by exact Vm ‹_› ‹_› ‹_›)),Z.xt⟩)
 refine .d<|.ct<|.sk<|.b 1<|.s<|.g<|.r 2<|RG.int (48+(Int.tmod k1 10)) AA (by have q1:=PG (z:=k1) AB; omega) ?_
 obtain ⟨ab,ah⟩:∃ y:UInt8,(y.toNat:Int)=48+(Int.tmod k1 10):=UU (by have q1:=PG (z:=k1) AB; omega)
 exact RG.eqv (v:=.int .u8 (ab.toNat:Int)) (v':=.int .u8 (IntKind.u8.wrap (48+(Int.tmod k1 10)))) AA (Q5 ah)<|RG.Nl 0 ([ab]:List UInt8) [] Z fun aq w Z=>RG.b2s (s:=180) (d:=9) (y:=ab) (Z.ow 0 ([ab]:List UInt8) AA).1 AA AA<|.r 1<|RG.cat (t:=9) (s:=[ab]) (u:=out) AA (by have q1:=N3 p0; have q2:=congrArg List.length (by assumption:FI k1.toNat++out=FI k.toNat); rw [List.length_append] at q2; simp only [List.length_cons,List.length_nil]; omega)<|.r 1<|.d<|.g<|.r 1<|RG.quo (t:=3) (a:=k1) (b:=10) AA AB (by have q1:=PG (z:=k1) AB; omega)<|.r 1<|.d<|.ib 1<|ac ((Int.tdiv k1 10),([ab]++out)) _ _ AA (Z.to 1 [] 0) ⟨(by have q1:=PG (z:=k1) AB; omega),(by have q1:=PG (z:=k1) AB; omega),(by exact Tz ‹_› ‹_› ‹_›)⟩ (by simp only []; have q1:=PG (z:=k1) AB; omega)
end Go.Proofs.YtcginoabkicdiaaGreat
namespace Go.Proofs.YtcginoabkicdiaaGreat
set_option maxRecDepth 100000
set_option maxHeartbeats 4000000
theorem LI:MkL Tryz.prog 29 FJ Bt:=by
 intro w D a c xs k hh hk hb
 have hm:=hh.rep.max
 refine goT func29 ?_
 refine .s<|.g<|.r 1<|.d<|.s<|.s<|.g<|.r 1<|.d<|.b 0<|T.mL (MkI.init (M:=FJ) (z:=Bt) (k:=k) hh) ?_
 intro i k1 ys e w hI E
 refine .s<|.s<|.g<|.r 3<|.bp ((i:Int)< (xs.length:Int)) (fun af=>?_) (fun af=>?_)
 ·obtain ⟨x,hx,_,hd⟩:=hI.at AB
  have ⟨b1,b2,b3⟩:=hI.bd F7 hd
  have hz:Bt x=2:=rfl
  refine hI.dp.hole hx (fun G=>?_)
  have X:=Chg.refl D w
  refine .d<|.ct<|.sk<|.s<|.b 1<|.s<|.g<|.r 3<|RG.mt G (Bv (F:=all) k1 AB) fun w G X1=>?_
  have X:=X.trans X1
  refine RG.mi G<|.r 1<|RG.ms G 0 (vT (mtx k1)) (⟨(mtx k1),x.val⟩:Tag) fun w G X1=>?_
  have X:=X.trans X1
  refine .d<|.s<|.g<|.r 1<|.it (k1+1)<|.r 1<|.d<|.s<|.g<|.r 3<|RG.mt G (Bv (F:=all) (k1+1) AB) fun w G X1=>?_
  have X:=X.trans X1
  refine RG.mi G<|.r 1<|RG.ms G 1 (vT (mtx (k1+1))) (⟨(mtx k1),(mtx (k1+1))⟩:Tag) fun w G X1=>?_
  have X:=X.trans X1
  refine .d<|.g<|.r 1<|.it ((k1+1)+1)<|.r 1<|.d<|.ib 1<|.g<|.r 1<|.it ((i:Int)+1)<|.r 1<|.d<|?_
  exact E (i+1) ((k1+1)+1) _ _ _ AA (hI.step hd G X ⟨rfl,rfl⟩ (by show 2=2; omega) AB) (Nat.lt_succ_self _)
 ·obtain ⟨q1,q2,q3⟩:=hI.end_ AB
  exact .d<|.cf<|.x 0 rfl<|.s<|.g<|.r 2<|.d<|T.rt func29 results29 (vI k1) ⟨congrArg vI q1,q2,q3⟩
theorem GB:MkL Tryz.prog 78 IM BP:=by
 intro w D a c xs k hh hk hb
 have hm:=hh.rep.max
 refine goT func78 ?_
 refine .s<|.g<|.r 1<|.d<|.s<|.s<|.g<|.r 1<|.d<|.b 0<|T.mL (MkI.init (M:=IM) (z:=BP) (k:=k) hh) ?_
 intro i k1 ys e w hI E
 refine .s<|.s<|.g<|.r 3<|.bp ((i:Int)< (xs.length:Int)) (fun af=>?_) (fun af=>?_)
 ·obtain ⟨x,hx,_,hd⟩:=hI.at AB
  have ⟨b1,b2,b3⟩:=hI.bd Bq hd
  have hz:BP x=1:=rfl
  refine hI.dp.hole hx (fun G=>?_)
  have X:=Chg.refl D w
  refine .d<|.ct<|.sk<|.s<|.b 1<|.s<|.g<|.r 3<|RG.mi G<|RG.ms G 0 (vI k1) (k1:Int) fun w G X1=>?_
  have X:=X.trans X1
  refine .d<|.g<|.r 1<|.it (k1+1)<|.r 1<|.d<|.ib 1<|.g<|.r 1<|.it ((i:Int)+1)<|.r 1<|.d<|?_
  exact E (i+1) (k1+1) _ _ _ AA (hI.step hd G X rfl (by show 1=1; omega) AB) (Nat.lt_succ_self _)
 ·obtain ⟨q1,q2,q3⟩:=hI.end_ AB
  exact .d<|.cf<|.x 0 rfl<|.s<|.g<|.r 2<|.d<|T.rt func78 results78 (vI k1) ⟨congrArg vI q1,q2,q3⟩
theorem Pa:MkL Tryz.prog 191 Hr Ck:=by
 intro w D a c xs k hh hk hb
 have hm:=hh.rep.max
 refine goT func191 ?_
 refine .s<|.g<|.r 1<|.d<|.s<|.s<|.g<|.r 1<|.d<|.b 0<|T.mL (MkI.init (M:=Hr) (z:=Ck) (k:=k) hh) ?_
 intro i k1 ys e w hI E
 refine .s<|.s<|.g<|.r 3<|.bp ((i:Int)< (xs.length:Int)) (fun af=>?_) (fun af=>?_)
 ·obtain ⟨x,hx,_,hd⟩:=hI.at AB
  have ⟨b1,b2,b3⟩:=hI.bd Kh hd
  have hz:Ck x=2:=rfl
  refine hI.dp.hole hx (fun G=>?_)
  have X:=Chg.refl D w
  refine .d<|.ct<|.sk<|.s<|.b 1<|.s<|.g<|.r 3<|RG.mi G<|.r 1<|RG.ms G 0 (vI k1) (⟨k1,x.v⟩:Row) fun w G X1=>?_
  have X:=X.trans X1
  refine .d<|.s<|.g<|.r 1<|.it (k1+1)<|.r 1<|.d<|.s<|.g<|.r 3<|RG.mi G<|.r 1<|RG.ms G 1 (vI (k1+1)) (⟨k1,(k1+1)⟩:Row) fun w G X1=>?_
  have X:=X.trans X1
  refine .d<|.g<|.r 1<|.it ((k1+1)+1)<|.r 1<|.d<|.ib 1<|.g<|.r 1<|.it ((i:Int)+1)<|.r 1<|.d<|?_
  exact E (i+1) ((k1+1)+1) _ _ _ AA (hI.step hd G X ⟨rfl,rfl⟩ (by show 2=2; omega) AB) (Nat.lt_succ_self _)
 ·obtain ⟨q1,q2,q3⟩:=hI.end_ AB
  exact .d<|.cf<|.x 0 rfl<|.s<|.g<|.r 2<|.d<|T.rt func191 results191 (vI k1) ⟨congrArg vI q1,q2,q3⟩
theorem Lk:MkL Tryz.prog 76 GU CV:=by
 intro w D a c xs k hh hk hb
 have hm:=hh.rep.max
 refine goT func76 ?_
 refine .s<|.g<|.r 1<|.d<|.s<|.s<|.g<|.r 1<|.d<|.b 0<|T.mL (MkI.init (M:=GU) (z:=CV) (k:=k) hh) ?_
 intro i k1 ys e w hI E
 refine .s<|.s<|.g<|.r 3<|.bp ((i:Int)< (xs.length:Int)) (fun af=>?_) (fun af=>?_)
 ·obtain ⟨x,hx,_,hd⟩:=hI.at AB
  have ⟨b1,b2,b3⟩:=hI.bd Dd hd
  have hz:CV x=3:=rfl
  refine hI.dp.hole hx (fun G=>?_)
  have X:=Chg.refl D w
  refine .d<|.ct<|.sk<|.s<|.b 1<|.s<|.g<|.r 3<|RG.mi G<|.r 1<|RG.ms G 0 (vI k1) (⟨k1,⟨x.row.t,x.row.v⟩⟩:Smp) fun w G X1=>?_
  have X:=X.trans X1
  refine .d<|.s<|.g<|.r 1<|.it (k1+1)<|.r 1<|.d<|.s<|.g<|.r 3<|RG.mi G<|.r 2<|RG.ms G 1 (vI (k1+1)) (⟨k1,⟨(k1+1),x.row.v⟩⟩:Smp) fun w G X1=>?_
  have X:=X.trans X1
  refine .d<|.s<|.g<|.r 1<|.it ((k1+1)+1)<|.r 1<|.d<|.s<|.g<|.r 3<|RG.mi G<|.r 2<|RG.ms G 2 (vI ((k1+1)+1)) (⟨k1,⟨(k1+1),((k1+1)+1)⟩⟩:Smp) fun w G X1=>?_
  have X:=X.trans X1
  refine .d<|.g<|.r 1<|.it (((k1+1)+1)+1)<|.r 1<|.d<|.ib 1<|.g<|.r 1<|.it ((i:Int)+1)<|.r 1<|.d<|?_
  exact E (i+1) (((k1+1)+1)+1) _ _ _ AA (hI.step hd G X ⟨rfl,rfl,(by show k1+1+1=k1+2; omega)⟩ (by show 3=3; omega) AB) (Nat.lt_succ_self _)
 ·obtain ⟨q1,q2,q3⟩:=hI.end_ AB
  exact .d<|.cf<|.x 0 rfl<|.s<|.g<|.r 2<|.d<|T.rt func76 results76 (vI k1) ⟨congrArg vI q1,q2,q3⟩
theorem Jh:MkL Tryz.prog 79 nmM nmZ:=by
 intro w D a c xs k hh hk hb
 have hm:=hh.rep.max
 refine goT func79 ?_
 refine .s<|.g<|.r 1<|.d<|.s<|.s<|.g<|.r 1<|.d<|.b 0<|T.mL (MkI.init (M:=nmM) (z:=nmZ) (k:=k) hh) ?_
 intro i k1 ys e w hI E
 refine .s<|.s<|.g<|.r 3<|.bp ((i:Int)< (xs.length:Int)) (fun af=>?_) (fun af=>?_)
 ·obtain ⟨x,hx,_,hd⟩:=hI.at AB
  have ⟨b1,b2,b3⟩:=hI.bd CY hd
  have hz:nmZ x=(lsZ Bt x):=rfl
  have p0:=Ab F7 x
  refine hI.dp.hole hx (fun a0 c0 G=>?_)
  have X:=Chg.refl D w
  refine .d<|.ct<|.sk<|.s<|.b 1<|.g<|.r 2<|RG.mi G<|RG.ml G 0<|.r 1<|RG.mc G LI [] [] a0 c0 x k1 (fun vs=>(vs:List Tag)) AB AB (fun w v1 G X1 m1 z1=>?_) (hc:=fun _=>Ry)
  have X:=X.trans X1
  refine .r 1<|.d<|.ib 1<|.g<|.r 1<|.it ((i:Int)+1)<|.r 1<|.d<|?_
  exact E (i+1) (k1+lsZ Bt x) _ _ _ AA (hI.step hd G X m1 (by show (lsZ Bt v1)=(lsZ Bt x); omega) AB) (Nat.lt_succ_self _)
 ·obtain ⟨q1,q2,q3⟩:=hI.end_ AB
  exact .d<|.cf<|.x 0 rfl<|.s<|.g<|.r 2<|.d<|T.rt func79 results79 (vI k1) ⟨congrArg vI q1,q2,q3⟩
theorem Ji:MkL Tryz.prog 141 blM blZ:=by
 intro w D a c xs k hh hk hb
 have hm:=hh.rep.max
 refine goT func141 ?_
 refine .s<|.g<|.r 1<|.d<|.s<|.s<|.g<|.r 1<|.d<|.b 0<|T.mL (MkI.init (M:=blM) (z:=blZ) (k:=k) hh) ?_
 intro i k1 ys e w hI E
 refine .s<|.s<|.g<|.r 3<|.bp ((i:Int)< (xs.length:Int)) (fun af=>?_) (fun af=>?_)
 ·obtain ⟨x,hx,_,hd⟩:=hI.at AB
  have ⟨b1,b2,b3⟩:=hI.bd D7 hd
  have hz:blZ x=(lsZ Ck x):=rfl
  have p0:=Ab Kh x
  refine hI.dp.hole hx (fun a0 c0 G=>?_)
  have X:=Chg.refl D w
  refine .d<|.ct<|.sk<|.s<|.b 1<|.g<|.r 2<|RG.mi G<|RG.ml G 0<|.r 1<|RG.mc G Pa [] [] a0 c0 x k1 (fun vs=>(vs:List Row)) AB AB (fun w v1 G X1 m1 z1=>?_) (hc:=fun _=>Ry)
  have X:=X.trans X1
  refine .r 1<|.d<|.ib 1<|.g<|.r 1<|.it ((i:Int)+1)<|.r 1<|.d<|?_
  exact E (i+1) (k1+lsZ Ck x) _ _ _ AA (hI.step hd G X m1 (by show (lsZ Ck v1)=(lsZ Ck x); omega) AB) (Nat.lt_succ_self _)
 ·obtain ⟨q1,q2,q3⟩:=hI.end_ AB
  exact .d<|.cf<|.x 0 rfl<|.s<|.g<|.r 2<|.d<|T.rt func141 results141 (vI k1) ⟨congrArg vI q1,q2,q3⟩
theorem Oc:MkL Tryz.prog 140 FY CB:=by
 intro w D a c xs k hh hk hb
 have hm:=hh.rep.max
 refine goT func140 ?_
 refine .s<|.g<|.r 1<|.d<|.s<|.s<|.g<|.r 1<|.d<|.b 0<|T.mL (MkI.init (M:=FY) (z:=CB) (k:=k) hh) ?_
 intro i k1 ys e w hI E
 refine .s<|.s<|.g<|.r 3<|.bp ((i:Int)< (xs.length:Int)) (fun af=>?_) (fun af=>?_)
 ·obtain ⟨x,hx,_,hd⟩:=hI.at AB
  have ⟨b1,b2,b3⟩:=hI.bd D6 hd
  have hz:CB x=(2+lsZ BP x.ids):=rfl
  have p0:=Ab Bq x.ids
  refine hI.dp.hole hx (fun a0 c0 G=>?_)
  have X:=Chg.refl D w
  refine .d<|.ct<|.sk<|.s<|.b 1<|.s<|.g<|.r 3<|RG.mt G (Bv (F:=all) k1 AB) fun w G X1=>?_
  have X:=X.trans X1
  refine RG.mi G<|.r 2<|RG.ms G 0 (vT (mtx k1)) (⟨⟨(mtx k1),x.tag.val⟩,x.ids⟩:Pst) fun w G X1=>?_
  have X:=X.trans X1
  refine .d<|.s<|.g<|.r 1<|.it (k1+1)<|.r 1<|.d<|.s<|.g<|.r 3<|RG.mt G (Bv (F:=all) (k1+1) AB) fun w G X1=>?_
  have X:=X.trans X1
  refine RG.mi G<|.r 2<|RG.ms G 1 (vT (mtx (k1+1))) (⟨⟨(mtx k1),(mtx (k1+1))⟩,x.ids⟩:Pst) fun w G X1=>?_
  have X:=X.trans X1
  refine .d<|.s<|.g<|.r 1<|.it ((k1+1)+1)<|.r 1<|.d<|.g<|.r 2<|RG.mi G<|.r 1<|RG.ml G 2<|.r 1<|RG.mc G GB [] [] a0 c0 x.ids ((k1+1)+1) (fun vs=>(⟨⟨(mtx k1),(mtx (k1+1))⟩,vs⟩:Pst)) AB AB (fun w v1 G X1 m1 z1=>?_) (hc:=fun _=>Vr)
  have X:=X.trans X1
  refine .r 1<|.d<|.ib 1<|.g<|.r 1<|.it ((i:Int)+1)<|.r 1<|.d<|?_
  exact E (i+1) (((k1+1)+1)+lsZ BP x.ids) _ _ _ AA (hI.step hd G X ⟨⟨rfl,rfl⟩,EJ m1 AB⟩ (by show (2+lsZ BP v1)=(2+lsZ BP x.ids); omega) AB) (Nat.lt_succ_self _)
 ·obtain ⟨q1,q2,q3⟩:=hI.end_ AB
  exact .d<|.cf<|.x 0 rfl<|.s<|.g<|.r 2<|.d<|T.rt func140 results140 (vI k1) ⟨congrArg vI q1,q2,q3⟩
theorem Od:MkL Tryz.prog 75 HP Bp:=by
 intro w D a c xs k hh hk hb
 have hm:=hh.rep.max
 refine goT func75 ?_
 refine .s<|.g<|.r 1<|.d<|.s<|.s<|.g<|.r 1<|.d<|.b 0<|T.mL (MkI.init (M:=HP) (z:=Bp) (k:=k) hh) ?_
 intro i k1 ys e w hI E
 refine .s<|.s<|.g<|.r 3<|.bp ((i:Int)< (xs.length:Int)) (fun af=>?_) (fun af=>?_)
 ·obtain ⟨x,hx,_,hd⟩:=hI.at AB
  have ⟨b1,b2,b3⟩:=hI.bd De hd
  have hz:Bp x=(lsZ BP x.ids+lsZ blZ x.blocks):=rfl
  have p0:=Ab Bq x.ids
  have p1:=Ab D7 x.blocks
  refine hI.dp.hole hx (fun a0 c0  a1 c1 G=>?_)
  have X:=Chg.refl D w
  refine .d<|.ct<|.sk<|.s<|.b 1<|.s<|.g<|.r 2<|RG.mi G<|.r 1<|RG.ml G 0<|.r 1<|RG.mc G GB [] [It.s a1 c1 x.blocks] a0 c0 x.ids k1 (fun vs=>(⟨vs,x.blocks⟩:Prt)) AB AB (fun w v1 G X1 m1 z1=>?_) (hc:=fun _=>T1)
  have X:=X.trans X1
  refine .r 1<|.d<|.g<|.r 2<|RG.mi G<|.r 1<|RG.ml G 1<|.r 1<|RG.mc G Ji [It.s a0 c0 v1] [] a1 c1 x.blocks (k1+lsZ BP x.ids) (fun vs=>(⟨v1,vs⟩:Prt)) AB AB (fun w v2 G X1 m2 z2=>?_) (hc:=fun _=>T3)
  have X:=X.trans X1
  refine .r 1<|.d<|.ib 1<|.g<|.r 1<|.it ((i:Int)+1)<|.r 1<|.d<|?_
  exact E (i+1) ((k1+lsZ BP x.ids)+lsZ blZ x.blocks) _ _ _ AA (hI.step hd G X ⟨m1,EJ m2 (by show k1+lsZ BP x.ids=k1+lsZ BP v1; omega)⟩ (by show (lsZ BP v1+lsZ blZ v2)=(lsZ BP x.ids+lsZ blZ x.blocks); omega) AB) (Nat.lt_succ_self _)
 ·obtain ⟨q1,q2,q3⟩:=hI.end_ AB
  exact .d<|.cf<|.x 0 rfl<|.s<|.g<|.r 2<|.d<|T.rt func75 results75 (vI k1) ⟨congrArg vI q1,q2,q3⟩
theorem Oe:MkL Tryz.prog 77 GV Br:=by
 intro w D a c xs k hh hk hb
 have hm:=hh.rep.max
 refine goT func77 ?_
 refine .s<|.g<|.r 1<|.d<|.s<|.s<|.g<|.r 1<|.d<|.b 0<|T.mL (MkI.init (M:=GV) (z:=Br) (k:=k) hh) ?_
 intro i k1 ys e w hI E
 refine .s<|.s<|.g<|.r 3<|.bp ((i:Int)< (xs.length:Int)) (fun af=>?_) (fun af=>?_)
 ·obtain ⟨x,hx,_,hd⟩:=hI.at AB
  have ⟨b1,b2,b3⟩:=hI.bd Df hd
  have hz:Br x=(1+(lsZ BP x.part.ids+lsZ blZ x.part.blocks)):=rfl
  have p0:=Ab Bq x.part.ids
  have p1:=Ab D7 x.part.blocks
  refine hI.dp.hole hx (fun a0 c0  a1 c1 G=>?_)
  have X:=Chg.refl D w
  refine .d<|.ct<|.sk<|.s<|.b 1<|.s<|.g<|.r 3<|RG.mi G<|.r 1<|RG.ms G 0 (vI k1) (⟨k1,⟨x.part.ids,x.part.blocks⟩⟩:Fil) fun w G X1=>?_
  have X:=X.trans X1
  refine .d<|.s<|.g<|.r 1<|.it (k1+1)<|.r 1<|.d<|.s<|.g<|.r 2<|RG.mi G<|.r 2<|RG.ml G 1<|.r 1<|RG.mc G GB [] [It.s a1 c1 x.part.blocks] a0 c0 x.part.ids (k1+1) (fun vs=>(⟨k1,⟨vs,x.part.blocks⟩⟩:Fil)) AB AB (fun w v1 G X1 m1 z1=>?_) (hc:=fun _=>T4)
  have X:=X.trans X1
  refine .r 1<|.d<|.g<|.r 2<|RG.mi G<|.r 2<|RG.ml G 2<|.r 1<|RG.mc G Ji [It.s a0 c0 v1] [] a1 c1 x.part.blocks ((k1+1)+lsZ BP x.part.ids) (fun vs=>(⟨k1,⟨v1,vs⟩⟩:Fil)) AB AB (fun w v2 G X1 m2 z2=>?_) (hc:=fun _=>T5)
  have X:=X.trans X1
  refine .r 1<|.d<|.ib 1<|.g<|.r 1<|.it ((i:Int)+1)<|.r 1<|.d<|?_
  exact E (i+1) (((k1+1)+lsZ BP x.part.ids)+lsZ blZ x.part.blocks) _ _ _ AA (hI.step hd G X ⟨rfl,m1,EJ m2 (by show k1+1+lsZ BP x.part.ids=k1+1+lsZ BP v1; omega)⟩ (by show (1+(lsZ BP v1+lsZ blZ v2))=(1+(lsZ BP x.part.ids+lsZ blZ x.part.blocks)); omega) AB) (Nat.lt_succ_self _)
 ·obtain ⟨q1,q2,q3⟩:=hI.end_ AB
  exact .d<|.cf<|.x 0 rfl<|.s<|.g<|.r 2<|.d<|T.rt func77 results77 (vI k1) ⟨congrArg vI q1,q2,q3⟩
theorem NS:MkL Tryz.prog 11 evQ Kj:=by
 intro w D a c xs k hh hk hb
 have hm:=hh.rep.max
 refine goT func11 ?_
 refine .s<|.g<|.r 1<|.d<|.s<|.s<|.g<|.r 1<|.d<|.b 0<|T.mL (MkI.init (M:=evQ) (z:=Kj) (k:=k) hh) ?_
 intro i k1 ys e w hI E
 refine .s<|.s<|.g<|.r 3<|.bp ((i:Int)< (xs.length:Int)) (fun af=>?_) (fun af=>?_)
 ·obtain ⟨x,hx,_,hd⟩:=hI.at AB
  have ⟨b1,b2,b3⟩:=hI.bd Rz hd
  have hz:Kj x=(5+lsZ Bt x.name):=rfl
  have p0:=Ab F7 x.name
  refine hI.dp.hole hx (fun a0 c0 G=>?_)
  have X:=Chg.refl D w
  refine .d<|.ct<|.sk<|.s<|.b 1<|.s<|.g<|.r 3<|RG.mi G<|.r 1<|RG.ms G 0 (vI k1) (⟨k1,x.at_,x.cut,x.name,⟨x.row.t,x.row.v⟩⟩:Evt) fun w G X1=>?_
  have X:=X.trans X1
  refine .d<|.s<|.g<|.r 1<|.it (k1+1)<|.r 1<|.d<|.s<|.g<|.r 3<|RG.mi G<|.r 1<|RG.ms G 1 (vI (k1+1)) (⟨k1,(k1+1),x.cut,x.name,⟨x.row.t,x.row.v⟩⟩:Evt) fun w G X1=>?_
  have X:=X.trans X1
  refine .d<|.s<|.g<|.r 1<|.it ((k1+1)+1)<|.r 1<|.d<|.s<|.g<|.r 3<|RG.mi G<|.r 1<|RG.ms G 2 (vI ((k1+1)+1)) (⟨k1,(k1+1),((k1+1)+1),x.name,⟨x.row.t,x.row.v⟩⟩:Evt) fun w G X1=>?_
  have X:=X.trans X1
  refine .d<|.s<|.g<|.r 1<|.it (((k1+1)+1)+1)<|.r 1<|.d<|.s<|.g<|.r 2<|RG.mi G<|.r 1<|RG.ml G 3<|.r 1<|RG.mc G LI [] [] a0 c0 x.name (((k1+1)+1)+1) (fun vs=>(⟨k1,(k1+1),((k1+1)+1),vs,⟨x.row.t,x.row.v⟩⟩:Evt)) AB AB (fun w v1 G X1 m1 z1=>?_) (hc:=fun _=>Vs)
  have X:=X.trans X1
  refine .r 1<|.d<|.s<|.g<|.r 3<|RG.mi G<|.r 2<|RG.ms G 4 (vI ((((k1+1)+1)+1)+lsZ Bt x.name)) (⟨k1,(k1+1),((k1+1)+1),v1,⟨((((k1+1)+1)+1)+lsZ Bt x.name),x.row.v⟩⟩:Evt) fun w G X1=>?_
  have X:=X.trans X1
  refine .d<|.s<|.g<|.r 1<|.it (((((k1+1)+1)+1)+lsZ Bt x.name)+1)<|.r 1<|.d<|.s<|.g<|.r 3<|RG.mi G<|.r 2<|RG.ms G 5 (vI (((((k1+1)+1)+1)+lsZ Bt x.name)+1)) (⟨k1,(k1+1),((k1+1)+1),v1,⟨((((k1+1)+1)+1)+lsZ Bt x.name),(((((k1+1)+1)+1)+lsZ Bt x.name)+1)⟩⟩:Evt) fun w G X1=>?_
  have X:=X.trans X1
  refine .d<|.g<|.r 1<|.it ((((((k1+1)+1)+1)+lsZ Bt x.name)+1)+1)<|.r 1<|.d<|.ib 1<|.g<|.r 1<|.it ((i:Int)+1)<|.r 1<|.d<|?_
  exact E (i+1) ((((((k1+1)+1)+1)+lsZ Bt x.name)+1)+1) _ _ _ AA (hI.step hd G X trivial (by show (5+lsZ Bt v1)=(5+lsZ Bt x.name); omega) AB) (Nat.lt_succ_self _)
 ·obtain ⟨q1,q2,q3⟩:=hI.end_ AB
  exact .d<|.cf<|.x 0 rfl<|.s<|.g<|.r 2<|.d<|T.rt func11 results11 (vI k1) ⟨congrArg vI q1,q2,q3⟩
theorem Of:MkV Tryz.prog 74 Vn DJ:=by
 intro w D x l k hl hh hk hb
 obtain ⟨a0,c0,a1,c1,rfl⟩:=l2_ l hl
 have hz:DJ x=(lsZ nmZ x.names+lsZ CB x.AY):=rfl
 have p0:=Ab CY x.names
 have p1:=Ab D6 x.AY
 refine goT func74 ?_
 refine .s<|.g<|RG.np 27 (Shp.cells x [(a0,c0),(a1,c1)]) fun b w e1 hx hB _=>?_
 have V:=MV.init hh hx e1 hB
 refine .r 1<|.d<|.s<|.g<|.r 1<|RG.lb V.bx<|.r 1<|RG.vLs V Jh [] [It.s a1 c1 x.AY] a0 c0 x.names k (fun vs=>(⟨vs,x.AY⟩:Idx)) AB AB (fun w v1 V u1 m1 z1=>?_)
 refine .r 1<|.d<|.s<|.g<|.r 1<|RG.lb V.bx<|.r 1<|RG.vLs V Oc [It.s a0 c0 v1] [] a1 c1 x.AY (k+lsZ nmZ x.names) (fun vs=>(⟨v1,vs⟩:Idx)) AB AB (fun w v2 V u2 m2 z2=>?_)
 exact .r 1<|.d<|.s<|.g<|.r 2<|.d<|T.rt func74 results74 (vI ((k+lsZ nmZ x.names)+lsZ CB x.AY)) ⟨congrArg vI AB,V.xt.1,(⟨v1,v2⟩:Idx),V.xt.2,(by show [sv _ 0 v1,sv _ 1 v2]=[sv _ 0 x.names,sv _ 1 x.AY]; rw [IQ u1,IQ u2]),⟨m1,EJ m2 (by show k+lsZ nmZ x.names=k+lsZ nmZ v1; omega)⟩,(by show (lsZ nmZ v1+lsZ CB v2)=(lsZ nmZ x.names+lsZ CB x.AY); omega)⟩
theorem Og:MkV Tryz.prog 30 Vo Du:=by
 intro w D x l k hl hh hk hb
 obtain ⟨a0,c0,a1,c1,a2,c2,a3,c3,rfl⟩:=l4_ l hl
 have hz:Du x=(DJ x.idx+lsZ Bp x.parts+lsZ CV x.mem):=rfl
 have p0:=E3 x.idx
 have p1:=Ab De x.parts
 have p2:=Ab Dd x.mem
 refine goT func30 ?_
 refine .s<|.g<|RG.np 31 (Shp.cells x [(a0,c0),(a1,c1),(a2,c2),(a3,c3)]) fun b w e1 hx hB _=>?_
 have V:=MV.init hh hx e1 hB
 refine .r 1<|.d<|.s<|.g<|.r 1<|RG.ln V.bx<|.r 1<|RG.vV V Of [] [It.s a2 c2 x.parts,It.s a3 c3 x.mem] x.idx [(a0,c0),(a1,c1)] k (fun vs=>(⟨vs,x.parts,x.mem⟩:Sto)) rfl AB AB (fun w v1 V u1 m1 z1=>?_)
 refine .r 1<|.d<|.s<|.g<|.r 1<|RG.lb V.bx<|.r 1<|RG.vLs V Od [It.s a0 c0 v1.names,It.s a1 c1 v1.AY] [It.s a3 c3 x.mem] a2 c2 x.parts (k+DJ x.idx) (fun vs=>(⟨v1,vs,x.mem⟩:Sto)) AB AB (fun w v2 V u2 m2 z2=>?_)
 refine .r 1<|.d<|.s<|.g<|.r 1<|RG.lb V.bx<|.r 1<|RG.vLs V Lk [It.s a0 c0 v1.names,It.s a1 c1 v1.AY,It.s a2 c2 v2] [] a3 c3 x.mem ((k+DJ x.idx)+lsZ Bp x.parts) (fun vs=>(⟨v1,v2,vs⟩:Sto)) AB AB (fun w v3 V u3 m3 z3=>?_)
 exact .r 1<|.d<|.s<|.g<|.r 2<|.d<|T.rt func30 results30 (vI (((k+DJ x.idx)+lsZ Bp x.parts)+lsZ CV x.mem)) ⟨congrArg vI AB,V.xt.1,(⟨v1,v2,v3⟩:Sto),V.xt.2,(by show Shp.cells v1 [(a0,c0),(a1,c1)]++[sv _ 2 v2,sv _ 3 v3]=Shp.cells x.idx [(a0,c0),(a1,c1)]++[sv _ 2 x.parts,sv _ 3 x.mem]; rw [u1,IQ u2,IQ u3]),⟨m1,EJ m2 (by show k+DJ x.idx=k+DJ v1; omega),EJ m3 (by show k+DJ x.idx+lsZ Bp x.parts=k+DJ v1+lsZ Bp v2; omega)⟩,(by show (DJ v1+lsZ Bp v2+lsZ CV v3)=(DJ x.idx+lsZ Bp x.parts+lsZ CV x.mem); omega)⟩
theorem Pb:MkV Tryz.prog 31 Vp Ep:=by
 intro w D x l k hl hh hk hb
 obtain ⟨a0,c0,a1,c1,a2,c2,rfl⟩:=l3_ l hl
 have hz:Ep x=(lsZ Br x.files+lsZ BP x.list+lsZ nmZ x.names):=rfl
 have p0:=Ab Df x.files
 have p1:=Ab Bq x.list
 have p2:=Ab CY x.names
 refine goT func31 ?_
 refine .s<|.g<|RG.np 35 (Shp.cells x [(a0,c0),(a1,c1),(a2,c2)]) fun b w e1 hx hB _=>?_
 have V:=MV.init hh hx e1 hB
 refine .r 1<|.d<|.s<|.g<|.r 1<|RG.lb V.bx<|.r 1<|RG.vLs V Oe [] [It.s a1 c1 x.list,It.s a2 c2 x.names] a0 c0 x.files k (fun vs=>(⟨vs,x.list,x.names,x.next⟩:Dsk)) AB AB (fun w v1 V u1 m1 z1=>?_)
 refine .r 1<|.d<|.s<|.g<|.r 1<|RG.lb V.bx<|.r 1<|RG.vLs V GB [It.s a0 c0 v1] [It.s a2 c2 x.names] a1 c1 x.list (k+lsZ Br x.files) (fun vs=>(⟨v1,vs,x.names,x.next⟩:Dsk)) AB AB (fun w v2 V u2 m2 z2=>?_)
 refine .r 1<|.d<|.s<|.g<|.r 1<|RG.lb V.bx<|.r 1<|RG.vLs V Jh [It.s a0 c0 v1,It.s a1 c1 v2] [] a2 c2 x.names ((k+lsZ Br x.files)+lsZ BP x.list) (fun vs=>(⟨v1,v2,vs,x.next⟩:Dsk)) AB AB (fun w v3 V u3 m3 z3=>?_)
 exact .r 1<|.d<|.s<|.g<|.r 2<|.d<|T.rt func31 results31 (vI (((k+lsZ Br x.files)+lsZ BP x.list)+lsZ nmZ x.names)) ⟨congrArg vI AB,V.xt.1,(⟨v1,v2,v3,x.next⟩:Dsk),V.xt.2,(by show [sv _ 0 v1,sv _ 1 v2,sv _ 2 v3,Value.int .i64 x.next]=[sv _ 0 x.files,sv _ 1 x.list,sv _ 2 x.names,Value.int .i64 x.next]; rw [IQ u1,IQ u2,IQ u3]),⟨m1,EJ m2 (by show k+lsZ Br x.files=k+lsZ Br v1; omega),EJ m3 (by show k+lsZ Br x.files+lsZ BP x.list=k+lsZ Br v1+lsZ BP v2; omega)⟩,(by show (lsZ Br v1+lsZ BP v2+lsZ nmZ v3)=(lsZ Br x.files+lsZ BP x.list+lsZ nmZ x.names); omega)⟩
theorem Oh:MkV Tryz.prog 12 Vq Ea:=by
 intro w D x l k hl hh hk hb
 obtain ⟨a0,c0,a1,c1,a2,c2,a3,c3,a4,c4,a5,c5,a6,c6,rfl⟩:=l7_ l hl
 have hz:Ea x=(Du x.store+Ep x.disk):=rfl
 have p0:=Gz x.store
 have p1:=G0 x.disk
 refine goT func12 ?_
 refine .s<|.g<|RG.np 37 (Shp.cells x [(a0,c0),(a1,c1),(a2,c2),(a3,c3),(a4,c4),(a5,c5),(a6,c6)]) fun b w e1 hx hB _=>?_
 have V:=MV.init hh hx e1 hB
 refine .r 1<|.d<|.s<|.g<|.r 1<|RG.ln V.bx<|.r 1<|RG.vV V Og [] [It.s a4 c4 x.disk.files,It.s a5 c5 x.disk.list,It.s a6 c6 x.disk.names] x.store [(a0,c0),(a1,c1),(a2,c2),(a3,c3)] k (fun vs=>(⟨vs,x.disk⟩:Wld)) rfl AB AB (fun w v1 V u1 m1 z1=>?_)
 refine .r 1<|.d<|.s<|.g<|.r 1<|RG.ln V.bx<|.r 1<|RG.vV V Pb [It.s a0 c0 v1.idx.names,It.s a1 c1 v1.idx.AY,It.s a2 c2 v1.parts,It.s a3 c3 v1.mem] [] x.disk [(a4,c4),(a5,c5),(a6,c6)] (k+Du x.store) (fun vs=>(⟨v1,vs⟩:Wld)) rfl AB AB (fun w v2 V u2 m2 z2=>?_)
 exact .r 1<|.d<|.s<|.g<|.r 2<|.d<|T.rt func12 results12 (vI ((k+Du x.store)+Ep x.disk)) ⟨congrArg vI AB,V.xt.1,(⟨v1,v2⟩:Wld),V.xt.2,(by show Shp.cells v1 [(a0,c0),(a1,c1),(a2,c2),(a3,c3)]++Shp.cells v2 [(a4,c4),(a5,c5),(a6,c6)]=Shp.cells x.store [(a0,c0),(a1,c1),(a2,c2),(a3,c3)]++Shp.cells x.disk [(a4,c4),(a5,c5),(a6,c6)]; rw [u1,u2]),⟨m1,(by have e:k+Du x.store=k+Du v1:=AB; exact e▸m2)⟩,(by show (Du v1+Ep v2)=(Du x.store+Ep x.disk); omega)⟩
end Go.Proofs.YtcginoabkicdiaaGreat
namespace Go.Proofs.YtcginoabkicdiaaGreat
set_option maxRecDepth 100000
set_option maxHeartbeats 4000000
variable {w:World} {F:Nat→Prop} {a1:Option Addr} {n1 c1:Nat}
theorem J8 (a:List Tag) (k:Int) (h1:RepS w F a1 n1 c1 a) (p0:lsM FJ Bt a k) (p1:1≤k) (p2:k+lsZ Bt a≤4611686018427387904):Calls Tryz.prog 144 [.slice a1 n1 c1,.int .i64 k].toArray w (Ag fun rv w'=>rv=.int .i64 ((k+lsZ Bt a))∧Ext w w'):=by
 cases h1.len
 refine goT func144 ?_
 have Z:=(St.i0 F w).p h1
 have ak:=h1.max
 refine .s<|.g<|.r 1<|.d<|.s<|.s<|.g<|.r 1<|.d<|.b 0<|T.Lp (k,(0:Nat)) (fun (k1,i)=>([(0,.slice a1 a.length c1),(1,vI k1),(5,vI (i:Int))],[],[],a.length - i,(i≤a.length)∧(1≤k1)∧(lsM FJ Bt (a.drop i) k1)∧(k1+lsZ Bt (a.drop i)=k+lsZ Bt a))) [] Z ⟨AB,(by exact p1),(by exact p0),AD⟩ ?_
 rintro ⟨k1,i⟩ aE w Z ⟨am,ao,aq,ar⟩ ah
 refine .s<|.s<|.g<|.r 3<|.bp ((i:Int)< (a.length:Int)) (fun ai=>?_) (fun ai=>.d<|.cf<|.x 0 rfl<|.s<|.g<|.r 2<|.d<|T.rt func144 results144 (vI k1) ⟨(congrArg (Value.int .i64) (by (rw [IL (by omega:a.length≤i)] at *; omega))),Z.xt⟩)
 refine .d<|.ct<|.sk<|.s<|.b 1<|.s<|.s<|T.Gd 7 Z fun w Z=>.r [0,1]<|gx a i fun ag af=>?_
 have aB:=AZ af
 refine GA.Ix 2 0 af Z<|.r [3]<|Z.el 0 af fun Z=>GA.Lh 4 0 0 Z<|.r [5]<|GA.C0 6 Z (fun w Z=>Bv k1 (by have q1:=BB (by assumption:lsM FJ Bt (a.drop i) k1) (by assumption:a.drop i=_::_); have q2:=BW (z:=Bt) (by assumption:a.drop i=_::_); have q3:=Ab F7 (a.drop (i+1)); simp only [Bt] at q2; omega) (F:=all))<|GA.Dn Z fun w Z=>RG.eqv (v:=.bool (!(ag.key==mtx k1))) AA (QS ag.key (mtx k1)) ?_
 cases aC:(ag.key==mtx k1)
 ·exact .d<|.ct<|.s<|.g<|.r 1<|.d<|T.rt func144 results144 (vI (-1)) ⟨(congrArg (Value.int .i64) (by (exfalso; have q1:=BB (by assumption:lsM FJ Bt (a.drop i) k1) (by assumption:a.drop i=_::_); simp_all [FJ]; done))),Z.xt⟩
 refine .d<|.cf<|.sk<|.s<|.g<|.r 1<|RG.int (k1+1) AA (by have q1:=BB (by assumption:lsM FJ Bt (a.drop i) k1) (by assumption:a.drop i=_::_); have q2:=BW (z:=Bt) (by assumption:a.drop i=_::_); have q3:=Ab F7 (a.drop (i+1)); simp only [Bt] at q2; omega)<|.r 1<|.d<|.s<|.s<|T.Gd 7 Z fun w Z=>.r [0,1]<|GA.Ix 2 1 af Z<|.r [3]<|GA.Lh 4 0 1 Z<|.r [5]<|GA.C0 6 Z (fun w Z=>Bv (k1+1) (by have q1:=BB (by assumption:lsM FJ Bt (a.drop i) k1) (by assumption:a.drop i=_::_); have q2:=BW (z:=Bt) (by assumption:a.drop i=_::_); have q3:=Ab F7 (a.drop (i+1)); simp only [Bt] at q2; omega) (F:=all))<|GA.Dn Z fun w Z=>RG.eqv (v:=.bool (!(ag.val==mtx (k1+1)))) AA (QS ag.val (mtx (k1+1))) ?_
 cases aD:(ag.val==mtx (k1+1))
 ·exact .d<|.ct<|.s<|.g<|.r 1<|.d<|T.rt func144 results144 (vI (-1)) ⟨(congrArg (Value.int .i64) (by (exfalso; have q1:=BB (by assumption:lsM FJ Bt (a.drop i) k1) (by assumption:a.drop i=_::_); simp_all [FJ]; done))),Z.xt⟩
 exact .d<|.cf<|.sk<|.g<|.r 1<|RG.int (k1+1+1) AA (by have q1:=BB (by assumption:lsM FJ Bt (a.drop i) k1) (by assumption:a.drop i=_::_); have q2:=BW (z:=Bt) (by assumption:a.drop i=_::_); have q3:=Ab F7 (a.drop (i+1)); simp only [Bt] at q2; omega)<|.r 1<|.d<|.ib 1<|.g<|.r 1<|RG.int ((i:Int)+1) AA (by have q1:=BB (by assumption:lsM FJ Bt (a.drop i) k1) (by assumption:a.drop i=_::_); have q2:=BW (z:=Bt) (by assumption:a.drop i=_::_); simp only [Bt] at q2; omega)<|.r 1<|.d<|ah (k1+1+1,i+1) _ _ AA (Z.to 0 [] 1) ⟨AB,(by have q1:=BB (by assumption:lsM FJ Bt (a.drop i) k1) (by assumption:a.drop i=_::_); have q2:=BW (z:=Bt) (by assumption:a.drop i=_::_); simp only [Bt] at q2; omega),(by have q1:=BB (by assumption:lsM FJ Bt (a.drop i) k1) (by assumption:a.drop i=_::_); exact EJ q1.2 (by (simp only [Bt]; omega))),(by have q1:=BB (by assumption:lsM FJ Bt (a.drop i) k1) (by assumption:a.drop i=_::_); have q2:=BW (z:=Bt) (by assumption:a.drop i=_::_); simp only [Bt] at q2; omega)⟩ (by (simp only []; omega))
theorem DZ (a:List Int) (k:Int) (h1:RepS w F a1 n1 c1 a) (p0:lsM IM BP a k) (p1:1≤k) (p2:k+lsZ BP a≤4611686018427387904):Calls Tryz.prog 84 [.slice a1 n1 c1,.int .i64 k].toArray w (Ag fun rv w'=>rv=.int .i64 ((k+lsZ BP a))∧Ext w w'):=by
 cases h1.len
 refine goT func84 ?_
 have Z:=(St.i0 F w).p h1
 have am:=h1.max
 refine .s<|.g<|.r 1<|.d<|.s<|.s<|.g<|.r 1<|.d<|.b 0<|T.Lp (k,(0:Nat)) (fun (k1,i)=>([(0,.slice a1 a.length c1),(1,vI k1),(5,vI (i:Int))],[],[],a.length - i,(i≤a.length)∧(1≤k1)∧(lsM IM BP (a.drop i) k1)∧(k1+lsZ BP (a.drop i)=k+lsZ BP a))) [] Z ⟨AB,(by exact p1),(by exact p0),AD⟩ ?_
 rintro ⟨k1,i⟩ az w Z ⟨ao,aq,ar,ax⟩ ag
 refine .s<|.s<|.g<|.r 3<|.bp ((i:Int)< (a.length:Int)) (fun ah=>?_) (fun ah=>.d<|.cf<|.x 0 rfl<|.s<|.g<|.r 2<|.d<|T.rt func84 results84 (vI k1) ⟨(congrArg (Value.int .i64) (by (rw [IL (by omega:a.length≤i)] at *; omega))),Z.xt⟩)
 refine .d<|.ct<|.sk<|.s<|.b 1<|.s<|.s<|.g<|.r 2<|gx a i fun ak ae=>?_
 have ay:=AZ ae
 exact RG.Ix 0 ae Z<|Z.el 0 ae fun Z=>RG.Lh 0 0 Z<|.r 1<|.ne ak k1 (fun ai=>.d<|.ct<|.s<|.g<|.r 1<|.d<|T.rt func84 results84 (vI (-1)) ⟨(congrArg (Value.int .i64) (by (exfalso; have q1:=BB (by assumption:lsM IM BP (a.drop i) k1) (by assumption:a.drop i=_::_); simp only [IM] at q1; omega))),Z.xt⟩) fun ai=>.d<|.cf<|.sk<|.g<|.r 1<|RG.int (k1+1) AA (by have q1:=BB (by assumption:lsM IM BP (a.drop i) k1) (by assumption:a.drop i=_::_); have q2:=BW (z:=BP) (by assumption:a.drop i=_::_); have q3:=Ab Bq (a.drop (i+1)); simp only [BP] at q2; omega)<|.r 1<|.d<|.ib 1<|.g<|.r 1<|RG.int ((i:Int)+1) AA (by have q1:=BB (by assumption:lsM IM BP (a.drop i) k1) (by assumption:a.drop i=_::_); have q2:=BW (z:=BP) (by assumption:a.drop i=_::_); simp only [BP] at q2; omega)<|.r 1<|.d<|ag (k1+1,i+1) _ _ AA (Z.to 0 [] 1) ⟨AB,(by have q1:=BB (by assumption:lsM IM BP (a.drop i) k1) (by assumption:a.drop i=_::_); have q2:=BW (z:=BP) (by assumption:a.drop i=_::_); simp only [BP] at q2; omega),(by have q1:=BB (by assumption:lsM IM BP (a.drop i) k1) (by assumption:a.drop i=_::_); exact EJ q1.2 AF),(by have q1:=BB (by assumption:lsM IM BP (a.drop i) k1) (by assumption:a.drop i=_::_); have q2:=BW (z:=BP) (by assumption:a.drop i=_::_); simp only [BP] at q2; omega)⟩ (by (simp only []; omega))
theorem J9 (a:List Row) (k:Int) (h1:RepS w F a1 n1 c1 a) (p0:lsM Hr Ck a k) (p1:1≤k) (p2:k+lsZ Ck a≤4611686018427387904):Calls Tryz.prog 192 [.slice a1 n1 c1,.int .i64 k].toArray w (Ag fun rv w'=>rv=.int .i64 ((k+lsZ Ck a))∧Ext w w'):=by
 cases h1.len
 refine goT func192 ?_
 have Z:=(St.i0 F w).p h1
 have ao:=h1.max
 refine .s<|.g<|.r 1<|.d<|.s<|.s<|.g<|.r 1<|.d<|.b 0<|T.Lp (k,(0:Nat)) (fun (k1,i)=>([(0,.slice a1 a.length c1),(1,vI k1),(5,vI (i:Int))],[],[],a.length - i,(i≤a.length)∧(1≤k1)∧(lsM Hr Ck (a.drop i) k1)∧(k1+lsZ Ck (a.drop i)=k+lsZ Ck a))) [] Z ⟨AB,(by exact p1),(by exact p0),AD⟩ ?_
 rintro ⟨k1,i⟩ aE w Z ⟨aq,ar,ax,ay⟩ ag
 refine .s<|.s<|.g<|.r 3<|.bp ((i:Int)< (a.length:Int)) (fun ah=>?_) (fun ah=>.d<|.cf<|.x 0 rfl<|.s<|.g<|.r 2<|.d<|T.rt func192 results192 (vI k1) ⟨(congrArg (Value.int .i64) (by (rw [IL (by omega:a.length≤i)] at *; omega))),Z.xt⟩)
 refine .d<|.ct<|.sk<|.s<|.b 1<|.s<|.s<|.g<|.r 2<|gx a i fun ai af=>?_
 have aD:=AZ af
 exact RG.Ix 0 af Z<|.r 1<|Z.el 0 af fun Z=>RG.Lh 0 0 Z<|.r 1<|.ne ai.t k1 (fun aj=>.d<|.ct<|.s<|.g<|.r 1<|.d<|T.rt func192 results192 (vI (-1)) ⟨(congrArg (Value.int .i64) (by (exfalso; have q1:=BB (by assumption:lsM Hr Ck (a.drop i) k1) (by assumption:a.drop i=_::_); simp only [Hr] at q1; omega))),Z.xt⟩) fun aj=>.d<|.cf<|.sk<|.s<|.g<|.r 1<|RG.int (k1+1) AA (by have q1:=BB (by assumption:lsM Hr Ck (a.drop i) k1) (by assumption:a.drop i=_::_); have q2:=BW (z:=Ck) (by assumption:a.drop i=_::_); have q3:=Ab Kh (a.drop (i+1)); simp only [Ck] at q2; omega)<|.r 1<|.d<|.s<|.s<|.g<|.r 2<|RG.Ix 1 af Z<|.r 1<|RG.Lh 0 1 Z<|.r 1<|.ne ai.v (k1+1) (fun ak=>.d<|.ct<|.s<|.g<|.r 1<|.d<|T.rt func192 results192 (vI (-1)) ⟨(congrArg (Value.int .i64) (by (exfalso; have q1:=BB (by assumption:lsM Hr Ck (a.drop i) k1) (by assumption:a.drop i=_::_); simp only [Hr] at q1; omega))),Z.xt⟩) fun ak=>.d<|.cf<|.sk<|.g<|.r 1<|RG.int (k1+1+1) AA (by have q1:=BB (by assumption:lsM Hr Ck (a.drop i) k1) (by assumption:a.drop i=_::_); have q2:=BW (z:=Ck) (by assumption:a.drop i=_::_); have q3:=Ab Kh (a.drop (i+1)); simp only [Ck] at q2; omega)<|.r 1<|.d<|.ib 1<|.g<|.r 1<|RG.int ((i:Int)+1) AA (by have q1:=BB (by assumption:lsM Hr Ck (a.drop i) k1) (by assumption:a.drop i=_::_); have q2:=BW (z:=Ck) (by assumption:a.drop i=_::_); simp only [Ck] at q2; omega)<|.r 1<|.d<|ag (k1+1+1,i+1) _ _ AA (Z.to 0 [] 1) ⟨AB,(by have q1:=BB (by assumption:lsM Hr Ck (a.drop i) k1) (by assumption:a.drop i=_::_); have q2:=BW (z:=Ck) (by assumption:a.drop i=_::_); simp only [Ck] at q2; omega),(by have q1:=BB (by assumption:lsM Hr Ck (a.drop i) k1) (by assumption:a.drop i=_::_); exact EJ q1.2 (by (simp only [Ck]; omega))),(by have q1:=BB (by assumption:lsM Hr Ck (a.drop i) k1) (by assumption:a.drop i=_::_); have q2:=BW (z:=Ck) (by assumption:a.drop i=_::_); simp only [Ck] at q2; omega)⟩ (by (simp only []; omega))
theorem Hy (a:List Smp) (k:Int) (h1:RepS w F a1 n1 c1 a) (p0:lsM GU CV a k) (p1:1≤k) (p2:k+lsZ CV a≤4611686018427387904):Calls Tryz.prog 82 [.slice a1 n1 c1,.int .i64 k].toArray w (Ag fun rv w'=>rv=.int .i64 ((k+lsZ CV a))∧Ext w w'):=by
 cases h1.len
 refine goT func82 ?_
 have Z:=(St.i0 F w).p h1
 have az:=h1.max
 refine .s<|.g<|.r 1<|.d<|.s<|.s<|.g<|.r 1<|.d<|.b 0<|T.Lp (k,(0:Nat)) (fun (k1,i)=>([(0,.slice a1 a.length c1),(1,vI k1),(5,vI (i:Int))],[],[],a.length - i,(i≤a.length)∧(1≤k1)∧(lsM GU CV (a.drop i) k1)∧(k1+lsZ CV (a.drop i)=k+lsZ CV a))) [] Z ⟨AB,(by exact p1),(by exact p0),AD⟩ ?_
 rintro ⟨k1,i⟩ aF w Z ⟨aA,aB,aC,aD⟩ ag
 refine .s<|.s<|.g<|.r 3<|.bp ((i:Int)< (a.length:Int)) (fun ai=>?_) (fun ai=>.d<|.cf<|.x 0 rfl<|.s<|.g<|.r 2<|.d<|T.rt func82 results82 (vI k1) ⟨(congrArg (Value.int .i64) (by (rw [IL (by omega:a.length≤i)] at *; omega))),Z.xt⟩)
 refine .d<|.ct<|.sk<|.s<|.b 1<|.s<|.s<|.g<|.r 2<|gx a i fun ah af=>?_
 have aE:=AZ af
 exact RG.Ix 0 af Z<|.r 1<|Z.el 0 af fun Z=>RG.Lh 0 0 Z<|.r 1<|.ne ah.id k1 (fun aj=>.d<|.ct<|.s<|.g<|.r 1<|.d<|T.rt func82 results82 (vI (-1)) ⟨(congrArg (Value.int .i64) (by (exfalso; have q1:=BB (by assumption:lsM GU CV (a.drop i) k1) (by assumption:a.drop i=_::_); simp only [GU] at q1; omega))),Z.xt⟩) fun aj=>.d<|.cf<|.sk<|.s<|.g<|.r 1<|RG.int (k1+1) AA (by have q1:=BB (by assumption:lsM GU CV (a.drop i) k1) (by assumption:a.drop i=_::_); have q2:=BW (z:=CV) (by assumption:a.drop i=_::_); have q3:=Ab Dd (a.drop (i+1)); simp only [CV] at q2; omega)<|.r 1<|.d<|.s<|.s<|.g<|.r 2<|RG.Ix 1 af Z<|.r 2<|RG.Lh 0 1 Z<|.r 1<|.ne ah.row.t (k1+1) (fun ak=>.d<|.ct<|.s<|.g<|.r 1<|.d<|T.rt func82 results82 (vI (-1)) ⟨(congrArg (Value.int .i64) (by (exfalso; have q1:=BB (by assumption:lsM GU CV (a.drop i) k1) (by assumption:a.drop i=_::_); simp only [GU] at q1; omega))),Z.xt⟩) fun ak=>.d<|.cf<|.sk<|.s<|.g<|.r 1<|RG.int (k1+1+1) AA (by have q1:=BB (by assumption:lsM GU CV (a.drop i) k1) (by assumption:a.drop i=_::_); have q2:=BW (z:=CV) (by assumption:a.drop i=_::_); have q3:=Ab Dd (a.drop (i+1)); simp only [CV] at q2; omega)<|.r 1<|.d<|.s<|.s<|.g<|.r 2<|RG.Ix 1 af Z<|.r 2<|RG.Lh 0 2 Z<|.r 1<|.ne ah.row.v (k1+1+1) (fun am=>.d<|.ct<|.s<|.g<|.r 1<|.d<|T.rt func82 results82 (vI (-1)) ⟨(congrArg (Value.int .i64) (by (exfalso; have q1:=BB (by assumption:lsM GU CV (a.drop i) k1) (by assumption:a.drop i=_::_); simp only [GU] at q1; omega))),Z.xt⟩) fun am=>.d<|.cf<|.sk<|.g<|.r 1<|RG.int (k1+1+1+1) AA (by have q1:=BB (by assumption:lsM GU CV (a.drop i) k1) (by assumption:a.drop i=_::_); have q2:=BW (z:=CV) (by assumption:a.drop i=_::_); have q3:=Ab Dd (a.drop (i+1)); simp only [CV] at q2; omega)<|.r 1<|.d<|.ib 1<|.g<|.r 1<|RG.int ((i:Int)+1) AA (by have q1:=BB (by assumption:lsM GU CV (a.drop i) k1) (by assumption:a.drop i=_::_); have q2:=BW (z:=CV) (by assumption:a.drop i=_::_); simp only [CV] at q2; omega)<|.r 1<|.d<|ag (k1+1+1+1,i+1) _ _ AA (Z.to 0 [] 1) ⟨AB,(by have q1:=BB (by assumption:lsM GU CV (a.drop i) k1) (by assumption:a.drop i=_::_); have q2:=BW (z:=CV) (by assumption:a.drop i=_::_); simp only [CV] at q2; omega),(by have q1:=BB (by assumption:lsM GU CV (a.drop i) k1) (by assumption:a.drop i=_::_); exact EJ q1.2 (by (simp only [CV]; omega))),(by have q1:=BB (by assumption:lsM GU CV (a.drop i) k1) (by assumption:a.drop i=_::_); have q2:=BW (z:=CV) (by assumption:a.drop i=_::_); simp only [CV] at q2; omega)⟩ (by (simp only []; omega))
theorem Fo (a:List (List Tag)) (k:Int) (h1:RepS w F a1 n1 c1 a) (p0:lsM nmM nmZ a k) (p1:1≤k) (p2:k+lsZ nmZ a≤4611686018427387904):Calls Tryz.prog 85 [.slice a1 n1 c1,.int .i64 k].toArray w (Ag fun rv w'=>rv=.int .i64 ((k+lsZ nmZ a))∧Ext w w'):=by
 cases h1.len
 refine goT func85 ?_
 have Z:=(St.i0 F w).p h1
 have ao:=h1.max
 refine .s<|.g<|.r 1<|.d<|.s<|.s<|.g<|.r 1<|.d<|.b 0<|T.Lp (k,(0:Nat)) (fun (k1,i)=>([(0,.slice a1 a.length c1),(1,vI k1),(5,vI (i:Int))],[],[],a.length - i,(i≤a.length)∧(1≤k1)∧(lsM nmM nmZ (a.drop i) k1)∧(k1+lsZ nmZ (a.drop i)=k+lsZ nmZ a))) [] Z ⟨AB,(by exact p1),(by exact p0),AD⟩ ?_
 rintro ⟨k1,i⟩ aA w Z ⟨aq,ar,ax,ay⟩ ah
 refine .s<|.s<|.g<|.r 3<|.bp ((i:Int)< (a.length:Int)) (fun aj=>?_) (fun aj=>.d<|.cf<|.x 0 rfl<|.s<|.g<|.r 2<|.d<|T.rt func85 results85 (vI k1) ⟨(congrArg (Value.int .i64) (by (rw [IL (by omega:a.length≤i)] at *; omega))),Z.xt⟩)
 refine .d<|.ct<|.sk<|.s<|.b 1<|.s<|.g<|.r 2<|gx a i fun ai af=>?_
 have az:=AZ af
 exact RG.Ix 0 af Z<|Z.el 0 af fun aE aF Z=>RG.Lh 0 0 Z<|.r 1<|RG.C0 (J8 ai k1 (Z.a 1) (by have q1:=BB (by assumption:lsM nmM nmZ (a.drop i) k1) (by assumption:a.drop i=_::_); have q5:=dz CY (by assumption:a.drop i=_::_); simp only [nmZ] at q5; exact q1.1) AB (by have q1:=BB (by assumption:lsM nmM nmZ (a.drop i) k1) (by assumption:a.drop i=_::_); have q2:=BW (z:=nmZ) (by assumption:a.drop i=_::_); have q3:=Ab CY (a.drop (i+1)); have q5:=dz CY (by assumption:a.drop i=_::_); simp only [nmZ] at q5; simp only [nmZ] at q2; omega)) Z fun w Z=>.r 1<|.d<|.s<|.g<|.r 1<|.bp ((k1+lsZ Bt ai)< 0) (fun ak=>.d<|.ct<|.s<|.g<|.r 1<|.d<|T.rt func85 results85 (vI (-1)) ⟨(congrArg (Value.int .i64) (by (exfalso; have q5:=dz CY (by assumption:a.drop i=_::_); simp only [nmZ] at q5; omega))),Z.xt⟩) fun ak=>.d<|.cf<|.sk<|.ib 1<|.g<|.r 1<|RG.int ((i:Int)+1) AA (by have q1:=BB (by assumption:lsM nmM nmZ (a.drop i) k1) (by assumption:a.drop i=_::_); have q2:=BW (z:=nmZ) (by assumption:a.drop i=_::_); have q5:=dz CY (by assumption:a.drop i=_::_); simp only [nmZ] at q5; simp only [nmZ] at q2; omega)<|.r 1<|.d<|ah ((k1+lsZ Bt ai),i+1) _ _ AA (Z.to 0 [] 2) ⟨AB,(by have q1:=BB (by assumption:lsM nmM nmZ (a.drop i) k1) (by assumption:a.drop i=_::_); have q2:=BW (z:=nmZ) (by assumption:a.drop i=_::_); have q5:=dz CY (by assumption:a.drop i=_::_); simp only [nmZ] at q5; simp only [nmZ] at q2; omega),(by have q1:=BB (by assumption:lsM nmM nmZ (a.drop i) k1) (by assumption:a.drop i=_::_); have q5:=dz CY (by assumption:a.drop i=_::_); simp only [nmZ] at q5; exact EJ q1.2 AF),(by have q1:=BB (by assumption:lsM nmM nmZ (a.drop i) k1) (by assumption:a.drop i=_::_); have q2:=BW (z:=nmZ) (by assumption:a.drop i=_::_); have q5:=dz CY (by assumption:a.drop i=_::_); simp only [nmZ] at q5; simp only [nmZ] at q2; omega)⟩ (by (simp only []; omega))
theorem Fp (a:List (List Row)) (k:Int) (h1:RepS w F a1 n1 c1 a) (p0:lsM blM blZ a k) (p1:1≤k) (p2:k+lsZ blZ a≤4611686018427387904):Calls Tryz.prog 143 [.slice a1 n1 c1,.int .i64 k].toArray w (Ag fun rv w'=>rv=.int .i64 ((k+lsZ blZ a))∧Ext w w'):=by
 cases h1.len
 refine goT func143 ?_
 have Z:=(St.i0 F w).p h1
 have ao:=h1.max
 refine .s<|.g<|.r 1<|.d<|.s<|.s<|.g<|.r 1<|.d<|.b 0<|T.Lp (k,(0:Nat)) (fun (k1,i)=>([(0,.slice a1 a.length c1),(1,vI k1),(5,vI (i:Int))],[],[],a.length - i,(i≤a.length)∧(1≤k1)∧(lsM blM blZ (a.drop i) k1)∧(k1+lsZ blZ (a.drop i)=k+lsZ blZ a))) [] Z ⟨AB,(by exact p1),(by exact p0),AD⟩ ?_
 rintro ⟨k1,i⟩ aA w Z ⟨aq,ar,ax,ay⟩ ah
 refine .s<|.s<|.g<|.r 3<|.bp ((i:Int)< (a.length:Int)) (fun aj=>?_) (fun aj=>.d<|.cf<|.x 0 rfl<|.s<|.g<|.r 2<|.d<|T.rt func143 results143 (vI k1) ⟨(congrArg (Value.int .i64) (by (rw [IL (by omega:a.length≤i)] at *; omega))),Z.xt⟩)
 refine .d<|.ct<|.sk<|.s<|.b 1<|.s<|.g<|.r 2<|gx a i fun ai af=>?_
 have az:=AZ af
 exact RG.Ix 0 af Z<|Z.el 0 af fun aE aF Z=>RG.Lh 0 0 Z<|.r 1<|RG.C0 (J9 ai k1 (Z.a 1) (by have q1:=BB (by assumption:lsM blM blZ (a.drop i) k1) (by assumption:a.drop i=_::_); have q5:=dz D7 (by assumption:a.drop i=_::_); simp only [blZ] at q5; exact q1.1) AB (by have q1:=BB (by assumption:lsM blM blZ (a.drop i) k1) (by assumption:a.drop i=_::_); have q2:=BW (z:=blZ) (by assumption:a.drop i=_::_); have q3:=Ab D7 (a.drop (i+1)); have q5:=dz D7 (by assumption:a.drop i=_::_); simp only [blZ] at q5; simp only [blZ] at q2; omega)) Z fun w Z=>.r 1<|.d<|.s<|.g<|.r 1<|.bp ((k1+lsZ Ck ai)< 0) (fun ak=>.d<|.ct<|.s<|.g<|.r 1<|.d<|T.rt func143 results143 (vI (-1)) ⟨(congrArg (Value.int .i64) (by (exfalso; have q5:=dz D7 (by assumption:a.drop i=_::_); simp only [blZ] at q5; omega))),Z.xt⟩) fun ak=>.d<|.cf<|.sk<|.ib 1<|.g<|.r 1<|RG.int ((i:Int)+1) AA (by have q1:=BB (by assumption:lsM blM blZ (a.drop i) k1) (by assumption:a.drop i=_::_); have q2:=BW (z:=blZ) (by assumption:a.drop i=_::_); have q5:=dz D7 (by assumption:a.drop i=_::_); simp only [blZ] at q5; simp only [blZ] at q2; omega)<|.r 1<|.d<|ah ((k1+lsZ Ck ai),i+1) _ _ AA (Z.to 0 [] 2) ⟨AB,(by have q1:=BB (by assumption:lsM blM blZ (a.drop i) k1) (by assumption:a.drop i=_::_); have q2:=BW (z:=blZ) (by assumption:a.drop i=_::_); have q5:=dz D7 (by assumption:a.drop i=_::_); simp only [blZ] at q5; simp only [blZ] at q2; omega),(by have q1:=BB (by assumption:lsM blM blZ (a.drop i) k1) (by assumption:a.drop i=_::_); have q5:=dz D7 (by assumption:a.drop i=_::_); simp only [blZ] at q5; exact EJ q1.2 AF),(by have q1:=BB (by assumption:lsM blM blZ (a.drop i) k1) (by assumption:a.drop i=_::_); have q2:=BW (z:=blZ) (by assumption:a.drop i=_::_); have q5:=dz D7 (by assumption:a.drop i=_::_); simp only [blZ] at q5; simp only [blZ] at q2; omega)⟩ (by (simp only []; omega))
theorem JS (a:List Prt) (k:Int) (h1:RepS w F a1 n1 c1 a) (p0:lsM HP Bp a k) (p1:1≤k) (p2:k+lsZ Bp a≤4611686018427387904):Calls Tryz.prog 81 [.slice a1 n1 c1,.int .i64 k].toArray w (Ag fun rv w'=>rv=.int .i64 ((k+lsZ Bp a))∧Ext w w'):=by
 cases h1.len
 refine goT func81 ?_
 have Z:=(St.i0 F w).p h1
 have ar:=h1.max
 refine .s<|.g<|.r 1<|.d<|.s<|.s<|.g<|.r 1<|.d<|.b 0<|T.Lp (k,(0:Nat)) (fun (k1,i)=>([(0,.slice a1 a.length c1),(1,vI k1),(5,vI (i:Int))],[],[],a.length - i,(i≤a.length)∧(1≤k1)∧(lsM HP Bp (a.drop i) k1)∧(k1+lsZ Bp (a.drop i)=k+lsZ Bp a))) [] Z ⟨AB,(by exact p1),(by exact p0),AD⟩ ?_
 rintro ⟨k1,i⟩ aC w Z ⟨ax,ay,az,aA⟩ aj
 refine .s<|.s<|.g<|.r 3<|.bp ((i:Int)< (a.length:Int)) (fun ak=>?_) (fun ak=>.d<|.cf<|.x 0 rfl<|.s<|.g<|.r 2<|.d<|T.rt func81 results81 (vI k1) ⟨(congrArg (Value.int .i64) (by (rw [IL (by omega:a.length≤i)] at *; omega))),Z.xt⟩)
 refine .d<|.ct<|.sk<|.s<|.b 1<|.s<|.g<|.r 2<|gx a i fun ah ai=>?_
 have aB:=AZ ai
 exact RG.Ix 0 ai Z<|.r 1<|Z.el 0 ai fun aD aE aF aG Z=>RG.Lh 0 0 Z<|.r 1<|RG.C0 (DZ ah.ids k1 (Z.a 1) (by have q1:=BB (by assumption:lsM HP Bp (a.drop i) k1) (by assumption:a.drop i=_::_); exact q1.1.1) (by have q1:=BB (by assumption:lsM HP Bp (a.drop i) k1) (by assumption:a.drop i=_::_); have q2:=BW (z:=Bp) (by assumption:a.drop i=_::_); simp only [Bp] at q2; omega) (by have q1:=BB (by assumption:lsM HP Bp (a.drop i) k1) (by assumption:a.drop i=_::_); have q2:=BW (z:=Bp) (by assumption:a.drop i=_::_); have q3:=Ab De (a.drop (i+1)); have ab:=dz (z:=fun p=>lsZ blZ p.blocks) (fun p=>Ab D7 p.blocks) (by assumption:a.drop i=_::_); simp only [Bp] at q2; omega)) Z fun w Z=>.r 1<|.d<|.s<|.s<|.g<|.r 1<|.bp ((k1+lsZ BP ah.ids)< 0) (fun am=>.d<|.ct<|.s<|.g<|.r 1<|.d<|T.rt func81 results81 (vI (-1)) ⟨(congrArg (Value.int .i64) (by (exfalso; have aa:=dz (z:=fun p=>lsZ BP p.ids) (fun p=>Ab Bq p.ids) (by assumption:a.drop i=_::_); omega))),Z.xt⟩) fun am=>.d<|.cf<|.sk<|.s<|.g<|.r 2<|RG.Ix 3 ai Z<|.r 1<|RG.Lh 0 1 Z<|.r 1<|RG.C0 (Fp ah.blocks (k1+lsZ BP ah.ids) (Z.a 2) (by have q1:=BB (by assumption:lsM HP Bp (a.drop i) k1) (by assumption:a.drop i=_::_); exact q1.1.2) (by have q1:=BB (by assumption:lsM HP Bp (a.drop i) k1) (by assumption:a.drop i=_::_); have q2:=BW (z:=Bp) (by assumption:a.drop i=_::_); have aa:=dz (z:=fun p=>lsZ BP p.ids) (fun p=>Ab Bq p.ids) (by assumption:a.drop i=_::_); simp only [Bp] at q2; omega) (by have q1:=BB (by assumption:lsM HP Bp (a.drop i) k1) (by assumption:a.drop i=_::_); have q2:=BW (z:=Bp) (by assumption:a.drop i=_::_); have q3:=Ab De (a.drop (i+1)); simp only [Bp] at q2; omega)) Z fun w Z=>.r 1<|.d<|.s<|.g<|.r 1<|.bp (((k1+lsZ BP ah.ids)+lsZ blZ ah.blocks)< 0) (fun ao=>.d<|.ct<|.s<|.g<|.r 1<|.d<|T.rt func81 results81 (vI (-1)) ⟨(congrArg (Value.int .i64) (by (exfalso; have ab:=dz (z:=fun p=>lsZ blZ p.blocks) (fun p=>Ab D7 p.blocks) (by assumption:a.drop i=_::_); omega))),Z.xt⟩) fun ao=>.d<|.cf<|.sk<|.ib 1<|.g<|.r 1<|RG.int ((i:Int)+1) AA (by have q1:=BB (by assumption:lsM HP Bp (a.drop i) k1) (by assumption:a.drop i=_::_); have q2:=BW (z:=Bp) (by assumption:a.drop i=_::_); simp only [Bp] at q2; omega)<|.r 1<|.d<|aj (((k1+lsZ BP ah.ids)+lsZ blZ ah.blocks),i+1) _ _ AA (Z.to 0 [] 3) ⟨AB,(by have q1:=BB (by assumption:lsM HP Bp (a.drop i) k1) (by assumption:a.drop i=_::_); have q2:=BW (z:=Bp) (by assumption:a.drop i=_::_); have aa:=dz (z:=fun p=>lsZ BP p.ids) (fun p=>Ab Bq p.ids) (by assumption:a.drop i=_::_); have ab:=dz (z:=fun p=>lsZ blZ p.blocks) (fun p=>Ab D7 p.blocks) (by assumption:a.drop i=_::_); simp only [Bp] at q2; omega),(by have q1:=BB (by assumption:lsM HP Bp (a.drop i) k1) (by assumption:a.drop i=_::_); exact EJ q1.2 (by (simp only [Bp]; omega))),(by have q1:=BB (by assumption:lsM HP Bp (a.drop i) k1) (by assumption:a.drop i=_::_); have q2:=BW (z:=Bp) (by assumption:a.drop i=_::_); simp only [Bp] at q2; omega)⟩ (by (simp only []; omega))
theorem JT (a:List Pst) (k:Int) (h1:RepS w F a1 n1 c1 a) (p0:lsM FY CB a k) (p1:1≤k) (p2:k+lsZ CB a≤4611686018427387904):Calls Tryz.prog 142 [.slice a1 n1 c1,.int .i64 k].toArray w (Ag fun rv w'=>rv=.int .i64 ((k+lsZ CB a))∧Ext w w'):=by
 cases h1.len
 refine goT func142 ?_
 have Z:=(St.i0 F w).p h1
 have ao:=h1.max
 refine .s<|.g<|.r 1<|.d<|.s<|.s<|.g<|.r 1<|.d<|.b 0<|T.Lp (k,(0:Nat)) (fun (k1,i)=>([(0,.slice a1 a.length c1),(1,vI k1),(5,vI (i:Int))],[],[],a.length - i,(i≤a.length)∧(1≤k1)∧(lsM FY CB (a.drop i) k1)∧(k1+lsZ CB (a.drop i)=k+lsZ CB a))) [] Z ⟨AB,(by exact p1),(by exact p0),AD⟩ ?_
 rintro ⟨k1,i⟩ aC w Z ⟨aq,ar,ax,ay⟩ ai
 refine .s<|.s<|.g<|.r 3<|.bp ((i:Int)< (a.length:Int)) (fun aj=>?_) (fun aj=>.d<|.cf<|.x 0 rfl<|.s<|.g<|.r 2<|.d<|T.rt func142 results142 (vI k1) ⟨(congrArg (Value.int .i64) (by (rw [IL (by omega:a.length≤i)] at *; omega))),Z.xt⟩)
 refine .d<|.ct<|.sk<|.s<|.b 1<|.s<|.s<|T.Gd 8 Z fun w Z=>.r [0,1]<|gx a i fun ah ag=>?_
 have az:=AZ ag
 refine GA.Ix 2 0 ag Z<|.r [3,4]<|Z.el 0 ag fun aD aE Z=>GA.Lh 5 0 0 Z<|.r [6]<|GA.C0 7 Z (fun w Z=>Bv k1 (by have q1:=BB (by assumption:lsM FY CB (a.drop i) k1) (by assumption:a.drop i=_::_); have q2:=BW (z:=CB) (by assumption:a.drop i=_::_); have q3:=Ab D6 (a.drop (i+1)); have aa:=dz (z:=fun p=>lsZ BP p.ids) (fun p=>Ab Bq p.ids) (by assumption:a.drop i=_::_); simp only [CB] at q2; omega) (F:=all))<|GA.Dn Z fun w Z=>RG.eqv (v:=.bool (!(ah.tag.key==mtx k1))) AA (QS ah.tag.key (mtx k1)) ?_
 cases aA:(ah.tag.key==mtx k1)
 ·exact .d<|.ct<|.s<|.g<|.r 1<|.d<|T.rt func142 results142 (vI (-1)) ⟨(congrArg (Value.int .i64) (by (exfalso; have q1:=BB (by assumption:lsM FY CB (a.drop i) k1) (by assumption:a.drop i=_::_); simp_all [FY,FJ]; done))),Z.xt⟩
 refine .d<|.cf<|.sk<|.s<|.g<|.r 1<|RG.int (k1+1) AA (by have q1:=BB (by assumption:lsM FY CB (a.drop i) k1) (by assumption:a.drop i=_::_); have q2:=BW (z:=CB) (by assumption:a.drop i=_::_); have q3:=Ab D6 (a.drop (i+1)); have aa:=dz (z:=fun p=>lsZ BP p.ids) (fun p=>Ab Bq p.ids) (by assumption:a.drop i=_::_); simp only [CB] at q2; omega)<|.r 1<|.d<|.s<|.s<|T.Gd 8 Z fun w Z=>.r [0,1]<|GA.Ix 2 2 ag Z<|.r [3,4]<|GA.Lh 5 0 1 Z<|.r [6]<|GA.C0 7 Z (fun w Z=>Bv (k1+1) (by have q1:=BB (by assumption:lsM FY CB (a.drop i) k1) (by assumption:a.drop i=_::_); have q2:=BW (z:=CB) (by assumption:a.drop i=_::_); have q3:=Ab D6 (a.drop (i+1)); have aa:=dz (z:=fun p=>lsZ BP p.ids) (fun p=>Ab Bq p.ids) (by assumption:a.drop i=_::_); simp only [CB] at q2; omega) (F:=all))<|GA.Dn Z fun w Z=>RG.eqv (v:=.bool (!(ah.tag.val==mtx (k1+1)))) AA (QS ah.tag.val (mtx (k1+1))) ?_
 cases aB:(ah.tag.val==mtx (k1+1))
 ·exact .d<|.ct<|.s<|.g<|.r 1<|.d<|T.rt func142 results142 (vI (-1)) ⟨(congrArg (Value.int .i64) (by (exfalso; have q1:=BB (by assumption:lsM FY CB (a.drop i) k1) (by assumption:a.drop i=_::_); simp_all [FY,FJ]; done))),Z.xt⟩
 exact .d<|.cf<|.sk<|.s<|.g<|.r 1<|RG.int (k1+1+1) AA (by have q1:=BB (by assumption:lsM FY CB (a.drop i) k1) (by assumption:a.drop i=_::_); have q2:=BW (z:=CB) (by assumption:a.drop i=_::_); have q3:=Ab D6 (a.drop (i+1)); have aa:=dz (z:=fun p=>lsZ BP p.ids) (fun p=>Ab Bq p.ids) (by assumption:a.drop i=_::_); simp only [CB] at q2; omega)<|.r 1<|.d<|.s<|.g<|.r 2<|RG.Ix 2 ag Z<|.r 1<|RG.Lh 0 2 Z<|.r 1<|RG.C0 (DZ ah.ids (k1+1+1) (Z.a 1) (by have q1:=BB (by assumption:lsM FY CB (a.drop i) k1) (by assumption:a.drop i=_::_); exact EJ q1.1.2 AB) (by have q1:=BB (by assumption:lsM FY CB (a.drop i) k1) (by assumption:a.drop i=_::_); have q2:=BW (z:=CB) (by assumption:a.drop i=_::_); simp only [CB] at q2; omega) (by have q1:=BB (by assumption:lsM FY CB (a.drop i) k1) (by assumption:a.drop i=_::_); have q2:=BW (z:=CB) (by assumption:a.drop i=_::_); have q3:=Ab D6 (a.drop (i+1)); simp only [CB] at q2; omega)) Z fun w Z=>.r 1<|.d<|.s<|.g<|.r 1<|.bp (((k1+1+1)+lsZ BP ah.ids)< 0) (fun ak=>.d<|.ct<|.s<|.g<|.r 1<|.d<|T.rt func142 results142 (vI (-1)) ⟨(congrArg (Value.int .i64) (by (exfalso; have aa:=dz (z:=fun p=>lsZ BP p.ids) (fun p=>Ab Bq p.ids) (by assumption:a.drop i=_::_); omega))),Z.xt⟩) fun ak=>.d<|.cf<|.sk<|.ib 1<|.g<|.r 1<|RG.int ((i:Int)+1) AA (by have q1:=BB (by assumption:lsM FY CB (a.drop i) k1) (by assumption:a.drop i=_::_); have q2:=BW (z:=CB) (by assumption:a.drop i=_::_); simp only [CB] at q2; omega)<|.r 1<|.d<|ai (((k1+1+1)+lsZ BP ah.ids),i+1) _ _ AA (Z.to 0 [] 2) ⟨AB,(by have q1:=BB (by assumption:lsM FY CB (a.drop i) k1) (by assumption:a.drop i=_::_); have q2:=BW (z:=CB) (by assumption:a.drop i=_::_); have aa:=dz (z:=fun p=>lsZ BP p.ids) (fun p=>Ab Bq p.ids) (by assumption:a.drop i=_::_); simp only [CB] at q2; omega),(by have q1:=BB (by assumption:lsM FY CB (a.drop i) k1) (by assumption:a.drop i=_::_); exact EJ q1.2 (by (simp only [CB]; omega))),(by have q1:=BB (by assumption:lsM FY CB (a.drop i) k1) (by assumption:a.drop i=_::_); have q2:=BW (z:=CB) (by assumption:a.drop i=_::_); simp only [CB] at q2; omega)⟩ (by (simp only []; omega))
theorem JU (a:List Fil) (k:Int) (h1:RepS w F a1 n1 c1 a) (p0:lsM GV Br a k) (p1:1≤k) (p2:k+lsZ Br a≤4611686018427387904):Calls Tryz.prog 83 [.slice a1 n1 c1,.int .i64 k].toArray w (Ag fun rv w'=>rv=.int .i64 ((k+lsZ Br a))∧Ext w w'):=by
 cases h1.len
 refine goT func83 ?_
 have Z:=(St.i0 F w).p h1
 have ax:=h1.max
 refine .s<|.g<|.r 1<|.d<|.s<|.s<|.g<|.r 1<|.d<|.b 0<|T.Lp (k,(0:Nat)) (fun (k1,i)=>([(0,.slice a1 a.length c1),(1,vI k1),(5,vI (i:Int))],[],[],a.length - i,(i≤a.length)∧(1≤k1)∧(lsM GV Br (a.drop i) k1)∧(k1+lsZ Br (a.drop i)=k+lsZ Br a))) [] Z ⟨AB,(by exact p1),(by exact p0),AD⟩ ?_
 rintro ⟨k1,i⟩ aD w Z ⟨ay,az,aA,aB⟩ aj
 refine .s<|.s<|.g<|.r 3<|.bp ((i:Int)< (a.length:Int)) (fun ak=>?_) (fun ak=>.d<|.cf<|.x 0 rfl<|.s<|.g<|.r 2<|.d<|T.rt func83 results83 (vI k1) ⟨(congrArg (Value.int .i64) (by (rw [IL (by omega:a.length≤i)] at *; omega))),Z.xt⟩)
 refine .d<|.ct<|.sk<|.s<|.b 1<|.s<|.s<|.g<|.r 2<|gx a i fun ai ah=>?_
 have aC:=AZ ah
 exact RG.Ix 0 ah Z<|.r 1<|Z.el 0 ah fun aE aF aG aH Z=>RG.Lh 0 0 Z<|.r 1<|.ne ai.num k1 (fun am=>.d<|.ct<|.s<|.g<|.r 1<|.d<|T.rt func83 results83 (vI (-1)) ⟨(congrArg (Value.int .i64) (by (exfalso; have q1:=BB (by assumption:lsM GV Br (a.drop i) k1) (by assumption:a.drop i=_::_); simp_all [GV,FJ]; done))),Z.xt⟩) fun am=>.d<|.cf<|.sk<|.s<|.g<|.r 1<|RG.int (k1+1) AA (by have q1:=BB (by assumption:lsM GV Br (a.drop i) k1) (by assumption:a.drop i=_::_); have q2:=BW (z:=Br) (by assumption:a.drop i=_::_); have q3:=Ab Df (a.drop (i+1)); have aa:=dz (z:=fun p=>lsZ BP p.part.ids) (fun p=>Ab Bq p.part.ids) (by assumption:a.drop i=_::_); have ab:=dz (z:=fun p=>lsZ blZ p.part.blocks) (fun p=>Ab D7 p.part.blocks) (by assumption:a.drop i=_::_); simp only [Br,Bp] at q2; omega)<|.r 1<|.d<|.s<|.g<|.r 2<|RG.Ix 3 ah Z<|.r 2<|RG.Lh 0 1 Z<|.r 1<|RG.C0 (DZ ai.part.ids (k1+1) (Z.a 1) (by have q1:=BB (by assumption:lsM GV Br (a.drop i) k1) (by assumption:a.drop i=_::_); exact q1.1.2.1) (by have q1:=BB (by assumption:lsM GV Br (a.drop i) k1) (by assumption:a.drop i=_::_); have q2:=BW (z:=Br) (by assumption:a.drop i=_::_); simp only [Br,Bp] at q2; omega) (by have q1:=BB (by assumption:lsM GV Br (a.drop i) k1) (by assumption:a.drop i=_::_); have q2:=BW (z:=Br) (by assumption:a.drop i=_::_); have q3:=Ab Df (a.drop (i+1)); have ab:=dz (z:=fun p=>lsZ blZ p.part.blocks) (fun p=>Ab D7 p.part.blocks) (by assumption:a.drop i=_::_); simp only [Br,Bp] at q2; omega)) Z fun w Z=>.r 1<|.d<|.s<|.s<|.g<|.r 1<|.bp (((k1+1)+lsZ BP ai.part.ids)< 0) (fun ao=>.d<|.ct<|.s<|.g<|.r 1<|.d<|T.rt func83 results83 (vI (-1)) ⟨(congrArg (Value.int .i64) (by (exfalso; have aa:=dz (z:=fun p=>lsZ BP p.part.ids) (fun p=>Ab Bq p.part.ids) (by assumption:a.drop i=_::_); omega))),Z.xt⟩) fun ao=>.d<|.cf<|.sk<|.s<|.g<|.r 2<|RG.Ix 3 ah Z<|.r 2<|RG.Lh 0 2 Z<|.r 1<|RG.C0 (Fp ai.part.blocks ((k1+1)+lsZ BP ai.part.ids) (Z.a 2) (by have q1:=BB (by assumption:lsM GV Br (a.drop i) k1) (by assumption:a.drop i=_::_); exact q1.1.2.2) (by have q1:=BB (by assumption:lsM GV Br (a.drop i) k1) (by assumption:a.drop i=_::_); have q2:=BW (z:=Br) (by assumption:a.drop i=_::_); have aa:=dz (z:=fun p=>lsZ BP p.part.ids) (fun p=>Ab Bq p.part.ids) (by assumption:a.drop i=_::_); simp only [Br,Bp] at q2; omega) (by have q1:=BB (by assumption:lsM GV Br (a.drop i) k1) (by assumption:a.drop i=_::_); have q2:=BW (z:=Br) (by assumption:a.drop i=_::_); have q3:=Ab Df (a.drop (i+1)); simp only [Br,Bp] at q2; omega)) Z fun w Z=>.r 1<|.d<|.s<|.g<|.r 1<|.bp ((((k1+1)+lsZ BP ai.part.ids)+lsZ blZ ai.part.blocks)< 0) (fun aq=>.d<|.ct<|.s<|.g<|.r 1<|.d<|T.rt func83 results83 (vI (-1)) ⟨(congrArg (Value.int .i64) (by (exfalso; have ab:=dz (z:=fun p=>lsZ blZ p.part.blocks) (fun p=>Ab D7 p.part.blocks) (by assumption:a.drop i=_::_); omega))),Z.xt⟩) fun aq=>.d<|.cf<|.sk<|.ib 1<|.g<|.r 1<|RG.int ((i:Int)+1) AA (by have q1:=BB (by assumption:lsM GV Br (a.drop i) k1) (by assumption:a.drop i=_::_); have q2:=BW (z:=Br) (by assumption:a.drop i=_::_); simp only [Br,Bp] at q2; omega)<|.r 1<|.d<|aj ((((k1+1)+lsZ BP ai.part.ids)+lsZ blZ ai.part.blocks),i+1) _ _ AA (Z.to 0 [] 3) ⟨AB,(by have q1:=BB (by assumption:lsM GV Br (a.drop i) k1) (by assumption:a.drop i=_::_); have q2:=BW (z:=Br) (by assumption:a.drop i=_::_); have aa:=dz (z:=fun p=>lsZ BP p.part.ids) (fun p=>Ab Bq p.part.ids) (by assumption:a.drop i=_::_); have ab:=dz (z:=fun p=>lsZ blZ p.part.blocks) (fun p=>Ab D7 p.part.blocks) (by assumption:a.drop i=_::_); simp only [Br,Bp] at q2; omega),(by have q1:=BB (by assumption:lsM GV Br (a.drop i) k1) (by assumption:a.drop i=_::_); exact EJ q1.2 (by (simp only [Br,Bp]; omega))),(by have q1:=BB (by assumption:lsM GV Br (a.drop i) k1) (by assumption:a.drop i=_::_); have q2:=BW (z:=Br) (by assumption:a.drop i=_::_); simp only [Br,Bp] at q2; omega)⟩ (by (simp only []; omega))
end Go.Proofs.YtcginoabkicdiaaGreat
namespace Go.Proofs.YtcginoabkicdiaaGreat
set_option maxRecDepth 100000
set_option maxHeartbeats 4000000
variable {w:World} {F:Nat→Prop} {a1 a2 a3 a4 a5 a6 a7:Option Addr} {n1 c1 n2 c2 n3 c3 n4 c4 n5 c5 n6 c6 n7 c7:Nat}
theorem JV (a:Idx) (k:Int) (h1:RepS w F a1 n1 c1 a.names) (h2:RepS w F a2 n2 c2 a.AY) (p0:Vn a k) (p1:1≤k) (p2:k+DJ a≤4611686018427387904):Calls Tryz.prog 80 [.agg #[.slice a1 n1 c1,.slice a2 n2 c2],.int .i64 k].toArray w (Ag fun rv w'=>rv=.int .i64 ((k+DJ a))∧Ext w w'):=by
 cases h1.len
 cases h2.len
 refine goT func80 ?_
 have Z:=((St.i0 F w).p h1).p h2
 exact .s<|.g<|RG.Np Z fun ag w Z=>.r 1<|.d<|.s<|.g<|.r 1<|RG.Lb 0 Z<|.r 1<|RG.C0 (Fo a.names k (Z.a 1) p0.1 (by have q0:=p2; unfold DJ at q0; have:=Ab CY a.names; have:=Ab D6 a.AY; omega) (by have q0:=p2; unfold DJ at q0; have:=Ab CY a.names; have:=Ab D6 a.AY; omega)) Z fun w Z=>.r 1<|.d<|.s<|.s<|.g<|.r 1<|.bp ((k+lsZ nmZ a.names)< 0) (fun ab=>.d<|.ct<|.s<|.g<|.r 1<|.d<|T.rt func80 results80 (vI (-1)) ⟨(congrArg (Value.int .i64) (by (exfalso; have q0:=p2; unfold DJ at q0; have:=Ab CY a.names; have:=Ab D6 a.AY; omega))),Z.xt⟩) fun ab=>.d<|.cf<|.sk<|.s<|.g<|.r 1<|RG.Lb 0 Z<|.r 1<|RG.C0 (JT a.AY (k+lsZ nmZ a.names) (Z.a 0) p0.2 (by have q0:=p2; unfold DJ at q0; have:=Ab CY a.names; have:=Ab D6 a.AY; omega) (by have q0:=p2; unfold DJ at q0; have:=Ab CY a.names; have:=Ab D6 a.AY; omega)) Z fun w Z=>.r 1<|.d<|.s<|.s<|.g<|.r 1<|.bp (((k+lsZ nmZ a.names)+lsZ CB a.AY)< 0) (fun ac=>.d<|.ct<|.s<|.g<|.r 1<|.d<|T.rt func80 results80 (vI (-1)) ⟨(congrArg (Value.int .i64) (by (exfalso; have q0:=p2; unfold DJ at q0; have:=Ab CY a.names; have:=Ab D6 a.AY; omega))),Z.xt⟩) fun ac=>.d<|.cf<|.sk<|.s<|.g<|.r 2<|.d<|T.rt func80 results80 (vI ((k+lsZ nmZ a.names)+lsZ CB a.AY)) ⟨(congrArg (Value.int .i64) (by (unfold DJ; omega))),Z.xt⟩
theorem JW (a:Sto) (k:Int) (h1:RepS w F a1 n1 c1 a.idx.names) (h2:RepS w F a2 n2 c2 a.idx.AY) (h3:RepS w F a3 n3 c3 a.parts) (h4:RepS w F a4 n4 c4 a.mem) (p0:Vo a k) (p1:1≤k) (p2:k+Du a≤4611686018427387904):Calls Tryz.prog 32 [.agg #[.slice a1 n1 c1,.slice a2 n2 c2,.slice a3 n3 c3,.slice a4 n4 c4],.int .i64 k].toArray w (Ag fun rv w'=>rv=.int .i64 ((k+Du a))∧Ext w w'):=by
 cases h1.len
 cases h2.len
 cases h3.len
 cases h4.len
 refine goT func32 ?_
 have Z:=((((St.i0 F w).p h1).p h2).p h3).p h4
 exact .s<|.g<|RG.Np Z fun aj w Z=>.r 1<|.d<|.s<|.g<|.r 1<|RG.Ln 0 Z<|.r 1<|RG.C0 (JV a.idx k (Z.a 3) (Z.a 2) p0.1 (by have q0:=p2; unfold Du at q0; have:=E3 a.idx; have:=Ab De a.parts; have:=Ab Dd a.mem; omega) (by have q0:=p2; unfold Du at q0; have:=E3 a.idx; have:=Ab De a.parts; have:=Ab Dd a.mem; omega)) Z fun w Z=>.r 1<|.d<|.s<|.s<|.g<|.r 1<|.bp ((k+DJ a.idx)< 0) (fun ab=>.d<|.ct<|.s<|.g<|.r 1<|.d<|T.rt func32 results32 (vI (-1)) ⟨(congrArg (Value.int .i64) (by (exfalso; have q0:=p2; unfold Du at q0; have:=E3 a.idx; have:=Ab De a.parts; have:=Ab Dd a.mem; omega))),Z.xt⟩) fun ab=>.d<|.cf<|.sk<|.s<|.g<|.r 1<|RG.Lb 0 Z<|.r 1<|RG.C0 (JS a.parts (k+DJ a.idx) (Z.a 1) p0.2.1 (by have q0:=p2; unfold Du at q0; have:=E3 a.idx; have:=Ab De a.parts; have:=Ab Dd a.mem; omega) (by have q0:=p2; unfold Du at q0; have:=E3 a.idx; have:=Ab De a.parts; have:=Ab Dd a.mem; omega)) Z fun w Z=>.r 1<|.d<|.s<|.s<|.g<|.r 1<|.bp (((k+DJ a.idx)+lsZ Bp a.parts)< 0) (fun ac=>.d<|.ct<|.s<|.g<|.r 1<|.d<|T.rt func32 results32 (vI (-1)) ⟨(congrArg (Value.int .i64) (by (exfalso; have q0:=p2; unfold Du at q0; have:=E3 a.idx; have:=Ab De a.parts; have:=Ab Dd a.mem; omega))),Z.xt⟩) fun ac=>.d<|.cf<|.sk<|.s<|.g<|.r 1<|RG.Lb 0 Z<|.r 1<|RG.C0 (Hy a.mem ((k+DJ a.idx)+lsZ Bp a.parts) (Z.a 0) p0.2.2 (by have q0:=p2; unfold Du at q0; have:=E3 a.idx; have:=Ab De a.parts; have:=Ab Dd a.mem; omega) (by have q0:=p2; unfold Du at q0; have:=E3 a.idx; have:=Ab De a.parts; have:=Ab Dd a.mem; omega)) Z fun w Z=>.r 1<|.d<|.s<|.s<|.g<|.r 1<|.bp ((((k+DJ a.idx)+lsZ Bp a.parts)+lsZ CV a.mem)< 0) (fun ae=>.d<|.ct<|.s<|.g<|.r 1<|.d<|T.rt func32 results32 (vI (-1)) ⟨(congrArg (Value.int .i64) (by (exfalso; have q0:=p2; unfold Du at q0; have:=E3 a.idx; have:=Ab De a.parts; have:=Ab Dd a.mem; omega))),Z.xt⟩) fun ae=>.d<|.cf<|.sk<|.s<|.g<|.r 2<|.d<|T.rt func32 results32 (vI (((k+DJ a.idx)+lsZ Bp a.parts)+lsZ CV a.mem)) ⟨(congrArg (Value.int .i64) (by (unfold Du; omega))),Z.xt⟩
theorem KA (a:Dsk) (k:Int) (h1:RepS w F a1 n1 c1 a.files) (h2:RepS w F a2 n2 c2 a.list) (h3:RepS w F a3 n3 c3 a.names) (p0:Vp a k) (p1:1≤k) (p2:k+Ep a≤4611686018427387904):Calls Tryz.prog 33 [.agg #[.slice a1 n1 c1,.slice a2 n2 c2,.slice a3 n3 c3,.int .i64 a.next],.int .i64 k].toArray w (Ag fun rv w'=>rv=.int .i64 ((k+Ep a))∧Ext w w'):=by
 cases h1.len
 cases h2.len
 cases h3.len
 refine goT func33 ?_
 have Z:=(((St.i0 F w).p h1).p h2).p h3
 exact .s<|.g<|RG.Np Z fun ai w Z=>.r 1<|.d<|.s<|.g<|.r 1<|RG.Lb 0 Z<|.r 1<|RG.C0 (JU a.files k (Z.a 2) p0.1 (by have q0:=p2; unfold Ep at q0; have:=Ab Df a.files; have:=Ab Bq a.list; have:=Ab CY a.names; omega) (by have q0:=p2; unfold Ep at q0; have:=Ab Df a.files; have:=Ab Bq a.list; have:=Ab CY a.names; omega)) Z fun w Z=>.r 1<|.d<|.s<|.s<|.g<|.r 1<|.bp ((k+lsZ Br a.files)< 0) (fun ab=>.d<|.ct<|.s<|.g<|.r 1<|.d<|T.rt func33 results33 (vI (-1)) ⟨(congrArg (Value.int .i64) (by (exfalso; have q0:=p2; unfold Ep at q0; have:=Ab Df a.files; have:=Ab Bq a.list; have:=Ab CY a.names; omega))),Z.xt⟩) fun ab=>.d<|.cf<|.sk<|.s<|.g<|.r 1<|RG.Lb 0 Z<|.r 1<|RG.C0 (DZ a.list (k+lsZ Br a.files) (Z.a 1) p0.2.1 (by have q0:=p2; unfold Ep at q0; have:=Ab Df a.files; have:=Ab Bq a.list; have:=Ab CY a.names; omega) (by have q0:=p2; unfold Ep at q0; have:=Ab Df a.files; have:=Ab Bq a.list; have:=Ab CY a.names; omega)) Z fun w Z=>.r 1<|.d<|.s<|.s<|.g<|.r 1<|.bp (((k+lsZ Br a.files)+lsZ BP a.list)< 0) (fun ac=>.d<|.ct<|.s<|.g<|.r 1<|.d<|T.rt func33 results33 (vI (-1)) ⟨(congrArg (Value.int .i64) (by (exfalso; have q0:=p2; unfold Ep at q0; have:=Ab Df a.files; have:=Ab Bq a.list; have:=Ab CY a.names; omega))),Z.xt⟩) fun ac=>.d<|.cf<|.sk<|.s<|.g<|.r 1<|RG.Lb 0 Z<|.r 1<|RG.C0 (Fo a.names ((k+lsZ Br a.files)+lsZ BP a.list) (Z.a 0) p0.2.2 (by have q0:=p2; unfold Ep at q0; have:=Ab Df a.files; have:=Ab Bq a.list; have:=Ab CY a.names; omega) (by have q0:=p2; unfold Ep at q0; have:=Ab Df a.files; have:=Ab Bq a.list; have:=Ab CY a.names; omega)) Z fun w Z=>.r 1<|.d<|.s<|.s<|.g<|.r 1<|.bp ((((k+lsZ Br a.files)+lsZ BP a.list)+lsZ nmZ a.names)< 0) (fun ae=>.d<|.ct<|.s<|.g<|.r 1<|.d<|T.rt func33 results33 (vI (-1)) ⟨(congrArg (Value.int .i64) (by (exfalso; have q0:=p2; unfold Ep at q0; have:=Ab Df a.files; have:=Ab Bq a.list; have:=Ab CY a.names; omega))),Z.xt⟩) fun ae=>.d<|.cf<|.sk<|.s<|.g<|.r 2<|.d<|T.rt func33 results33 (vI (((k+lsZ Br a.files)+lsZ BP a.list)+lsZ nmZ a.names)) ⟨(congrArg (Value.int .i64) (by (unfold Ep; omega))),Z.xt⟩
theorem JX (a:Wld) (k:Int) (h1:RepS w F a1 n1 c1 a.store.idx.names) (h2:RepS w F a2 n2 c2 a.store.idx.AY) (h3:RepS w F a3 n3 c3 a.store.parts) (h4:RepS w F a4 n4 c4 a.store.mem) (h5:RepS w F a5 n5 c5 a.disk.files) (h6:RepS w F a6 n6 c6 a.disk.list) (h7:RepS w F a7 n7 c7 a.disk.names) (p0:Vq a k) (p1:1≤k) (p2:k+Ea a≤4611686018427387904):Calls Tryz.prog 13 [.agg #[.slice a1 n1 c1,.slice a2 n2 c2,.slice a3 n3 c3,.slice a4 n4 c4,.slice a5 n5 c5,.slice a6 n6 c6,.slice a7 n7 c7,.int .i64 a.disk.next],.int .i64 k].toArray w (Ag fun rv w'=>rv=.int .i64 ((k+Ea a))∧Ext w w'):=by
 cases h1.len
 cases h2.len
 cases h3.len
 cases h4.len
 cases h5.len
 cases h6.len
 cases h7.len
 refine goT func13 ?_
 have Z:=(((((((St.i0 F w).p h1).p h2).p h3).p h4).p h5).p h6).p h7
 exact .s<|.g<|RG.Np Z fun am w Z=>.r 1<|.d<|.s<|.g<|.r 1<|RG.Ln 0 Z<|.r 1<|RG.C0 (JW a.store k (Z.a 6) (Z.a 5) (Z.a 4) (Z.a 3) p0.1 (by have q0:=p2; unfold Ea at q0; have:=Gz a.store; have:=G0 a.disk; omega) (by have q0:=p2; unfold Ea at q0; have:=Gz a.store; have:=G0 a.disk; omega)) Z fun w Z=>.r 1<|.d<|.s<|.s<|.g<|.r 1<|.bp ((k+Du a.store)< 0) (fun ab=>.d<|.ct<|.s<|.g<|.r 1<|.d<|T.rt func13 results13 (vI (-1)) ⟨(congrArg (Value.int .i64) (by (exfalso; have q0:=p2; unfold Ea at q0; have:=Gz a.store; have:=G0 a.disk; omega))),Z.xt⟩) fun ab=>.d<|.cf<|.sk<|.s<|.g<|.r 1<|RG.Ln 0 Z<|.r 1<|RG.C0 (KA a.disk (k+Du a.store) (Z.a 2) (Z.a 1) (Z.a 0) p0.2 (by have q0:=p2; unfold Ea at q0; have:=Gz a.store; have:=G0 a.disk; omega) (by have q0:=p2; unfold Ea at q0; have:=Gz a.store; have:=G0 a.disk; omega)) Z fun w Z=>.r 1<|.d<|.s<|.s<|.g<|.r 1<|.bp (((k+Du a.store)+Ep a.disk)< 0) (fun ac=>.d<|.ct<|.s<|.g<|.r 1<|.d<|T.rt func13 results13 (vI (-1)) ⟨(congrArg (Value.int .i64) (by (exfalso; have q0:=p2; unfold Ea at q0; have:=Gz a.store; have:=G0 a.disk; omega))),Z.xt⟩) fun ac=>.d<|.cf<|.sk<|.s<|.g<|.r 2<|.d<|T.rt func13 results13 (vI ((k+Du a.store)+Ep a.disk)) ⟨(congrArg (Value.int .i64) (by (unfold Ea; omega))),Z.xt⟩
end Go.Proofs.YtcginoabkicdiaaGreat
namespace Go.Proofs.YtcginoabkicdiaaGreat
theorem TG {α:Type}{z:α→Int}{B:Int}(hB:0≤B):∀ {l:List α},(∀ x∈l,z x≤B)→lsZ z l≤l.length * B
 | [],_=>by show (0:Int)≤_; simp
 | x :: l, h => by
   have h1:=TG hB (l:=l) (fun y hy=>h y (.tail _ hy))
   have h2:=h x AI
   show z x+lsZ z l≤_
   rw [List.length_cons]
   have:((l.length+1:Nat):Int) * B=l.length * B+B:=by push_cast; rw [Int.add_mul]; omega
   omega
theorem G7 {α:Type}{z:α→Int}{B m:Nat}{l:List α}(h:∀ x∈l,z x≤B) (hm:l.length≤m):lsZ z l≤(m * B:Nat):=by
 have h1:=TG (B:=B) AB h
 have h2:l.length * B≤m * B:=Nat.mul_le_mul_right _ hm
 have h3:((l.length:Int) * (B:Int))=((l.length * B:Nat):Int):=by push_cast; rfl
 omega
theorem VJ {α:Type}{z:α→Int}{f:α→Nat}(h:∀ x,z x≤3+3 * (f x:Int)):∀ l:List α,lsZ z l≤3 * (mL f l:Nat)
 | []=>by show (0:Int)≤_; omega
 | x :: l => by
   have h1:=VJ h l
   have h2:=h x
   show z x+lsZ z l≤_
   have h3:mL f (x::l)=1+f x+mL f l:=by unfold mL HO; simp only [List.length_cons,List.map_cons,List.sum_cons]; omega
   rw [h3]
   omega
theorem Xf (n:List Tag):nmZ n≤3 * (mNm n:Nat):=VJ (fun x=>by unfold Bt; omega) n
theorem Xg {n:List Tag}(h:NmD n):nmZ n≤(5 * 2:Nat):=G7 (fun _ _=>by unfold Bt; omega) h.1
theorem VK {ns:List (List Tag)}(h:NsD ns){m:Nat}(hl:ns.length≤m):lsZ nmZ ns≤(m * (5 * 2):Nat):=G7 (fun x hx=>Xg (h x hx)) hl
theorem TH {p:Prt}(h:PrtI p):Bp p≤(1000000:Nat):=by
 have h1:lsZ BP p.ids≤(6 * 1:Nat):=G7 (fun _ _=>by unfold BP; omega) (by rw [h.len]; exact h.le)
 have h2:lsZ blZ p.blocks≤(6 * (1000 * 2):Nat):=G7 (fun b hb=>G7 (fun _ _=>by unfold Ck; omega) ((h.sz.2.2) b hb)) h.le
 unfold Bp
 omega
theorem We {w:Wld}(h:WV w):Ea w≤1000000000000:=by
 have s:=h.sd
 have d:=h.dd
 have h1:=VK s.nd (m:=6) s.nm.len
 have h2:lsZ CB w.store.idx.AY≤(44 * 8:Nat):=by
  have e:=s.ix.AY
  rw [e]
  refine G7 (fun p hp=>?_) (Qg _)
  have q:=(L8 hp).1
  have q1:=Tf w.store.idx.names p.tag
  have q2:=s.nm.len
  have q3:lsZ BP p.ids≤(6 * 1:Nat):=G7 (fun _ _=>by unfold BP; omega) (by rw [q]; omega)
  unfold CB
  omega
 have h3:lsZ Bp w.store.parts≤(6 * 1000000:Nat):=G7 (fun p hp=>TH (s.part p hp)) s.np
 have h4:lsZ CV w.store.mem≤(21 * 3:Nat):=G7 (fun _ _=>by unfold CV; omega) s.nm2
 have h5:lsZ Br w.disk.files≤(20 * 1000001:Nat):=G7 (fun f hf=>by have:=TH (d.file f hf); unfold Br; omega) d.nf
 have h6:lsZ BP w.disk.list≤(7 * 1:Nat):=G7 (fun _ _=>by unfold BP; omega) d.nl
 have h7:=VK d.g.nd (m:=6) h.wd.wi.dsk.nm.len
 unfold Ea Du Ep DJ
 omega
theorem Wf:Ea WX=0:=rfl
theorem WV.Xh (es:List Evt):WV (MY es):=by
 unfold MY
 have key:∀ (es:List Evt) (w:Wld),WV w→WV (es.foldl doW w):=fun es=>by
  induction es with
  | nil=>intro w h; exact h
  | cons e es ih=>intro w h; exact ih _ (h.doA e)
 exact key es _ WV.new
theorem TI (es:List Evt):Ea (Bi es).1≤1000000000000:=by
 unfold Bi
 split
 ·exact We (WV.Xh es)
 ·rw [Wf]; omega
end Go.Proofs.YtcginoabkicdiaaGreat
namespace Go.Proofs.YtcginoabkicdiaaGreat
set_option maxRecDepth 100000
set_option maxHeartbeats 4000000
variable {w:World} {F:Nat→Prop} {a1 a2 a3 a4 a5 a6 a7 a8:Option Addr} {n1 c1 n2 c2 n3 c3 n4 c4 n5 c5 n6 c6 n7 c7 n8 c8:Nat}
theorem Ll (w_:Wld) (e:Evt) (h1:RepS w F a1 n1 c1 w_.store.idx.names) (h2:RepS w F a2 n2 c2 w_.store.idx.AY) (h3:RepS w F a3 n3 c3 w_.store.parts) (h4:RepS w F a4 n4 c4 w_.store.mem) (h5:RepS w F a5 n5 c5 w_.disk.files) (h6:RepS w F a6 n6 c6 w_.disk.list) (h7:RepS w F a7 n7 c7 w_.disk.names) (h8:RepS w F a8 n8 c8 e.name) (p0:WI w_):Calls Tryz.prog 23 [.agg #[.slice a1 n1 c1,.slice a2 n2 c2,.slice a3 n3 c3,.slice a4 n4 c4,.slice a5 n5 c5,.slice a6 n6 c6,.slice a7 n7 c7,.int .i64 w_.disk.next],.agg #[.int .i64 e.kind,.int .i64 e.at_,.int .i64 e.cut,.slice a8 n8 c8,.int .i64 e.row.t,.int .i64 e.row.v]].toArray w (Ag fun rv w'=>VS (fo F w.heap.size) w' (doW w_ e:Wld) rv∧Ext w w'):=by
 cases h1.len
 cases h2.len
 cases h3.len
 cases h4.len
 cases h5.len
 cases h6.len
 cases h7.len
 cases h8.len
 refine goT func23 ?_
 have Z:=((((((((St.i0 F w).p h1).p h2).p h3).p h4).p h5).p h6).p h7).p h8
 have af:=h1.max
 have ah:=h3.max
 have ai:=h4.max
 have ak:=h6.max
 have am:=h7.max
 refine .s<|.g<|RG.Np Z fun aI w Z=>RG.Np Z fun aJ w Z=>RG.Np Z fun aK w Z=>.d<|.s<|.s<|.g<|.r 1<|RG.Lb 1 Z<|.d<|.b 0<|.s<|.g<|.eq e.kind 1 (fun aa=>?_) (fun aa=>.r 1<|.d<|.cf<|.s<|.g<|.eq e.kind 2 (fun ab=>.r 1<|.d<|.ct<|.s<|.g<|.r 1<|RG.Ln 2 Z<|RG.CT (us:=[.bool ((BC w_.store).2)]) (Jp w_.store (Z.mg 1 7) (Z.mg 1 6) (Z.mg 1 5) (Z.mg 1 4) (by have:=p0.sto.nm2; omega) p0.sto.Iz) Z fun aL aM aN aO aP aQ aR aS w Z=>.r 3<|RG.Np Z fun aT w Z=>RG.Ss 0 Z fun w Z=>.r 1<|.d<|.s<|T.Gd 9 Z fun w Z=>GA.Ln 0 3 Z<|.r [1]<|GA.Ln 2 3 Z<|.r [3]<|GA.Ln 4 3 Z<|.r [6]<|GA.Lb 7 2 Z<|GA.Ln 8 0 Z<|.go 5<|GE.CL (fun w Z=>Jr w_.disk w_.store (Z.a 7) (Z.a 6) (Z.a 5) (Z.a 11) (Z.a 10) (Z.a 9) (Z.a 8) (by have:=p0.sto.nm2; omega) p0.sto.Iz (by have:=p0.dsk.nl; omega) (by have:=p0.sto.nm.len; omega) (fun n hn=>(p0.sto.nm.sz n hn).1)) Z fun aU aV w Z=>GA.Dn Z fun w Z=>RG.CS (GJ w_ (BE w_.disk w_.store) e.cut (⟨(⟨(BC w_.store).1.idx.names,((BC w_.store).1.idx).AY⟩:Idx),(BC w_.store).1.parts,(BC w_.store).1.mem⟩:Sto) (Z.mg 1 12) (Z.mg 1 11) (Z.mg 1 10) (Z.mg 1 9) (Z.mg 1 8) (Z.mg 1 7) (Z.mg 1 6) (Z.mg 1 0) (Z.mg 1 1) (Z.mg 1 2) (Z.mg 1 3) (Z.mg 1 4) p0 (by exact StI.flush p0) (by exact p0.sto.flush)) Z fun aW aX aY aZ ba bg bh bi bj bk bm bn bo bq w Z=>RG.Ss 1 Z fun w Z=>.d<|T.Rb 1 func23 results23 Z ⟨Z.rS (g:=1) (⟨(⟨(⟨(((Bn w_ (BE w_.disk w_.store) e.cut (⟨(⟨(BC w_.store).1.idx.names,((BC w_.store).1.idx).AY⟩:Idx),(BC w_.store).1.parts,(BC w_.store).1.mem⟩:Sto)).store).idx).names,(((Bn w_ (BE w_.disk w_.store) e.cut (⟨(⟨(BC w_.store).1.idx.names,((BC w_.store).1.idx).AY⟩:Idx),(BC w_.store).1.parts,(BC w_.store).1.mem⟩:Sto)).store).idx).AY⟩:Idx),((Bn w_ (BE w_.disk w_.store) e.cut (⟨(⟨(BC w_.store).1.idx.names,((BC w_.store).1.idx).AY⟩:Idx),(BC w_.store).1.parts,(BC w_.store).1.mem⟩:Sto)).store).parts,((Bn w_ (BE w_.disk w_.store) e.cut (⟨(⟨(BC w_.store).1.idx.names,((BC w_.store).1.idx).AY⟩:Idx),(BC w_.store).1.parts,(BC w_.store).1.mem⟩:Sto)).store).mem⟩:Sto),(⟨((Bn w_ (BE w_.disk w_.store) e.cut (⟨(⟨(BC w_.store).1.idx.names,((BC w_.store).1.idx).AY⟩:Idx),(BC w_.store).1.parts,(BC w_.store).1.mem⟩:Sto)).disk).files,((Bn w_ (BE w_.disk w_.store) e.cut (⟨(⟨(BC w_.store).1.idx.names,((BC w_.store).1.idx).AY⟩:Idx),(BC w_.store).1.parts,(BC w_.store).1.mem⟩:Sto)).disk).list,((Bn w_ (BE w_.disk w_.store) e.cut (⟨(⟨(BC w_.store).1.idx.names,((BC w_.store).1.idx).AY⟩:Idx),(BC w_.store).1.parts,(BC w_.store).1.mem⟩:Sto)).disk).names,((Bn w_ (BE w_.disk w_.store) e.cut (⟨(⟨(BC w_.store).1.idx.names,((BC w_.store).1.idx).AY⟩:Idx),(BC w_.store).1.parts,(BC w_.store).1.mem⟩:Sto)).disk).next⟩:Dsk)⟩:Wld) [0,1,2,3,4,5,6] (by (rw [Nu ‹_›])),Z.xt⟩) fun ab=>.r 1<|.d<|.cf<|.s<|.g<|.eq e.kind 3 (fun ac=>.r 1<|.d<|.ct<|.s<|.g<|.r 1<|RG.Ln 2 Z<|.r 1<|RG.Lb 1 Z<|RG.CT (us:=[.bool ((BG w_.store e.at_).2)]) (Jq w_.store e.at_ (Z.mg 1 7) (Z.mg 1 6) (Z.mg 1 5) (Z.mg 1 4) (by have:=p0.sto.np; omega) (fun p hp=>(p0.sto.part p hp).sz)) Z fun br bu bv bw bz bA bC bD w Z=>.r 3<|RG.Np Z fun bE w Z=>RG.Ss 0 Z fun w Z=>.r 1<|.d<|.s<|T.Gd 9 Z fun w Z=>GA.Ln 0 3 Z<|.r [1]<|GA.Ln 2 3 Z<|.r [3]<|GA.Lb 4 2 Z<|.r [6]<|GA.Lb 7 2 Z<|GA.Ln 8 0 Z<|.go 5<|GE.CL (fun w Z=>Js w_.disk e.at_ (Z.a 7) (Z.a 6) (Z.a 5) (by have:=p0.dsk.nm.len; omega) (fun n hn=>(p0.dsk.nm.sz n hn).1) (by have:=p0.dsk.nl; omega) p0.dsk.at (fun f hf=>(p0.dsk.file f hf).sz)) Z fun bF bG w Z=>GA.Dn Z fun w Z=>RG.CS (GJ w_ (BF w_.disk e.at_) e.cut (⟨(⟨(BG w_.store e.at_).1.idx.names,((BG w_.store e.at_).1.idx).AY⟩:Idx),(BG w_.store e.at_).1.parts,(BG w_.store e.at_).1.mem⟩:Sto) (Z.mg 1 12) (Z.mg 1 11) (Z.mg 1 10) (Z.mg 1 9) (Z.mg 1 8) (Z.mg 1 7) (Z.mg 1 6) (Z.mg 1 0) (Z.mg 1 1) (Z.mg 1 2) (Z.mg 1 3) (Z.mg 1 4) p0 (by exact StI.merge p0.dsk _) (by exact p0.sto.merge _)) Z fun bH bI bJ bK bL bM bN bO bP bQ bR bS bT bU w Z=>RG.Ss 1 Z fun w Z=>.d<|T.Rb 1 func23 results23 Z ⟨Z.rS (g:=1) (⟨(⟨(⟨(((Bn w_ (BF w_.disk e.at_) e.cut (⟨(⟨(BG w_.store e.at_).1.idx.names,((BG w_.store e.at_).1.idx).AY⟩:Idx),(BG w_.store e.at_).1.parts,(BG w_.store e.at_).1.mem⟩:Sto)).store).idx).names,(((Bn w_ (BF w_.disk e.at_) e.cut (⟨(⟨(BG w_.store e.at_).1.idx.names,((BG w_.store e.at_).1.idx).AY⟩:Idx),(BG w_.store e.at_).1.parts,(BG w_.store e.at_).1.mem⟩:Sto)).store).idx).AY⟩:Idx),((Bn w_ (BF w_.disk e.at_) e.cut (⟨(⟨(BG w_.store e.at_).1.idx.names,((BG w_.store e.at_).1.idx).AY⟩:Idx),(BG w_.store e.at_).1.parts,(BG w_.store e.at_).1.mem⟩:Sto)).store).parts,((Bn w_ (BF w_.disk e.at_) e.cut (⟨(⟨(BG w_.store e.at_).1.idx.names,((BG w_.store e.at_).1.idx).AY⟩:Idx),(BG w_.store e.at_).1.parts,(BG w_.store e.at_).1.mem⟩:Sto)).store).mem⟩:Sto),(⟨((Bn w_ (BF w_.disk e.at_) e.cut (⟨(⟨(BG w_.store e.at_).1.idx.names,((BG w_.store e.at_).1.idx).AY⟩:Idx),(BG w_.store e.at_).1.parts,(BG w_.store e.at_).1.mem⟩:Sto)).disk).files,((Bn w_ (BF w_.disk e.at_) e.cut (⟨(⟨(BG w_.store e.at_).1.idx.names,((BG w_.store e.at_).1.idx).AY⟩:Idx),(BG w_.store e.at_).1.parts,(BG w_.store e.at_).1.mem⟩:Sto)).disk).list,((Bn w_ (BF w_.disk e.at_) e.cut (⟨(⟨(BG w_.store e.at_).1.idx.names,((BG w_.store e.at_).1.idx).AY⟩:Idx),(BG w_.store e.at_).1.parts,(BG w_.store e.at_).1.mem⟩:Sto)).disk).names,((Bn w_ (BF w_.disk e.at_) e.cut (⟨(⟨(BG w_.store e.at_).1.idx.names,((BG w_.store e.at_).1.idx).AY⟩:Idx),(BG w_.store e.at_).1.parts,(BG w_.store e.at_).1.mem⟩:Sto)).disk).next⟩:Dsk)⟩:Wld) [0,1,2,3,4,5,6] (by (rw [Nv ‹_›])),Z.xt⟩) fun ac=>.r 1<|.d<|.cf<|.s<|.g<|.eq e.kind 4 (fun ae=>.r 1<|.d<|.ct<|.s<|.g<|RG.Ln 2 Z<|RG.CS (Gv w_ (Z.a 7) (Z.a 6) (Z.a 5) (Z.a 4) (Z.a 3) (Z.a 2) (Z.a 1) p0.dsk) Z fun bV bW aq ar ax ay az aA aB aC aD aE aF aG w Z=>RG.Ss 0 Z fun w Z=>.d<|T.Rb 0 func23 results23 Z ⟨Z.rS (g:=1) (⟨(⟨(⟨(BV w_).store.idx.names,((BV w_).store.idx).AY⟩:Idx),(BV w_).store.parts,(BV w_).store.mem⟩:Sto),(⟨(BV w_).disk.files,(BV w_).disk.list,(BV w_).disk.names,(BV w_).disk.next⟩:Dsk)⟩:Wld) [0,1,2,3,4,5,6] (by (rw [Ra ‹_›])),Z.xt⟩) fun ae=>.r 1<|.d<|.cf<|.sk<|.ib 0<|.s<|.g<|RG.Ln 2 Z<|RG.Ss 0 Z fun w Z=>.d<|T.Rb 0 func23 results23 Z ⟨Z.rS (g:=1) w_ [7,6,5,4,3,2,1] (by (rw [Rc ‹_› ‹_› ‹_› ‹_›])),Z.xt⟩)
 refine .r 1<|.d<|.ct<|.s<|.g<|.r 1<|RG.Lb 1 Z<|RG.C0 (HX e.name (Z.a 0)) Z fun w Z=>?_
 cases aH:(At e.name)
 ·exact .d<|.cf<|.sk<|.ib 0<|.s<|.g<|RG.Ln 2 Z<|RG.Ss 0 Z fun w Z=>.d<|T.Rb 0 func23 results23 Z ⟨Z.rS (g:=1) w_ [7,6,5,4,3,2,1] (by (rw [M4 ‹_› ‹_›])),Z.xt⟩
 exact .d<|.ct<|.s<|.g<|.r 1<|RG.Ln 2 Z<|.r 1<|RG.Lb 1 Z<|.r 1<|RG.Ln 1 Z<|RG.CT (us:=[.bool ((Ca w_.store e.name e.row).2)]) (LV w_.store e.name e.row (Z.mg 1 7) (Z.mg 1 6) (Z.mg 1 5) (Z.mg 1 4) (Z.mg 1 0) p0.sto.sz (L7 ‹_›).2) Z fun bX bY bZ b7 b8 b9 cd ce w Z=>.r 3<|RG.Np Z fun cg w Z=>RG.Ss 0 Z fun w Z=>.r 1<|.d<|.g<|RG.Ln 0 Z<|.r 1<|RG.Ss 3 Z fun w Z=>.d<|.ib 0<|.s<|.g<|RG.Ln 3 Z<|RG.Ss 1 Z fun w Z=>.d<|T.Rb 1 func23 results23 Z ⟨Z.rS (g:=1) (⟨(⟨(⟨(Ca w_.store e.name e.row).1.idx.names,((Ca w_.store e.name e.row).1.idx).AY⟩:Idx),(Ca w_.store e.name e.row).1.parts,(Ca w_.store e.name e.row).1.mem⟩:Sto),(⟨w_.disk.files,w_.disk.list,w_.disk.names,w_.disk.next⟩:Dsk)⟩:Wld) [0,1,2,3,7,6,5] (by (rw [P1 ‹_› ‹_›])),Z.xt⟩
theorem Il (events:List Evt) (h1:RepS w F a1 n1 c1 events)  : Calls Tryz.prog 6 [.slice a1 n1 c1].toArray w (Ag fun rv w'=>(∃ v0,rv=.tuple #[v0,.bool ((Bi events).2)]∧VS (fo F w.heap.size) w' ((Bi events).1:Wld) v0)∧Ext w w'):=by
 refine goT func6 ?_
 obtain ⟨rfl,fu,h1⟩:=h1.tp
 refine .s<|.g<|.np 37 [AH,AH,AH,AH,AH,AH,AH,vI 0] fun ak cR bK bL ao cS=>?_
 have fv:Cov nil w ak:=H7 bK (Nat.le_refl _)
 replace h1:=(sn [] bL bK).g1 h1
 have aj:=bL
 refine .r 1<|.d<|.s<|.s<|.g<|.r 2<|.bp ((events.length:Int) > 50) (fun cT=>?_) (fun cT=>?_)
 ·refine .d<|.ct<|.s<|.g<|.r 1<|.sc [AH,AH,AH,AH,AH,AH,AH,vI 0] ao fun gb bT cU cV=>?_
  replace ⟨h1,aj⟩:=(so [ak] bT).g2 h1 aj
  exact .r 1<|.d<|.r2 func6 results6 (.bx cU) (.t (.bool false)) ⟨⟨_,(Ch rfl (AG (by (rw [NL ‹_›] <;> rfl)))),(VS.of (y:=(⟨(⟨(⟨([]:List (List Tag)),([]:List Pst)⟩:Idx),([]:List Prt),([]:List Smp)⟩:Sto),(⟨([]:List Fil),([]:List Int),([]:List (List Tag)),0⟩:Dsk)⟩:Wld)) ⟨_,rfl,⟨_,_,_,_,_,_,_,_,_,_,_,_,_,_,_,_,_,_,_,_,_,rfl,(RepS.By _ _ none 0 AE),(RepS.By _ _ none 0 AE),(RepS.By _ _ none 0 AE),(RepS.By _ _ none 0 AE),(RepS.By _ _ none 0 AE),(RepS.By _ _ none 0 AE),(RepS.By _ _ none 0 AE)⟩⟩ (by (rw [NL ‹_›] <;> rfl)))⟩,aj⟩
 refine .d<|.cf<|.sk<|.s<|.g<|.cl (Jo (w:=cR) (F:=all)) ?_
 rintro gf gh ⟨⟨_,rfl,⟨cW,gi,cX,cY,gj,cZ,c7,gk,c8,da,gl,db,de,gm,df,dh,gn,dj,dm,gp,dq,rfl,aW,aX,aY,aZ,ba,bg,bh⟩⟩,bU⟩
 have aV:=al1 ao.lt
 have bi:Gb w.heap.size cR.heap.size:=aj.size
 replace ⟨h1,ao,aj⟩:=(se [ak] bU).g3 h1 ao aj
 have aW:=aW.fr aV bi
 replace aW:=aW.base (G':=fo F w.heap.size) (fun _ _ h=>.inr h)
 have fw:=aW.max
 have aX:=aX.fr aV bi
 replace aX:=aX.base (G':=fo F w.heap.size) (fun _ _ h=>.inr h)
 have fA:=aX.max
 have aY:=aY.fr aV bi
 replace aY:=aY.base (G':=fo F w.heap.size) (fun _ _ h=>.inr h)
 have fB:=aY.max
 have aZ:=aZ.fr aV bi
 replace aZ:=aZ.base (G':=fo F w.heap.size) (fun _ _ h=>.inr h)
 have fC:=aZ.max
 have ba:=ba.fr aV bi
 replace ba:=ba.base (G':=fo F w.heap.size) (fun _ _ h=>.inr h)
 have fD:=ba.max
 have bg:=bg.fr aV bi
 replace bg:=bg.base (G':=fo F w.heap.size) (fun _ _ h=>.inr h)
 have fE:=bg.max
 have bh:=bh.fr aV bi
 replace bh:=bh.base (G':=fo F w.heap.size) (fun _ _ h=>.inr h)
 have fF:=bh.max
 have dt:=aW.len
 subst dt
 have du:=aX.len
 subst du
 have dv:=aY.len
 subst dv
 have dw:=aZ.len
 subst dw
 have dx:=ba.len
 subst dx
 have dy:=bg.len
 subst dy
 have dA:=bh.len
 subst dA
 refine .np 37 [AH,AH,AH,AH,AH,AH,AH,vI 0] fun am gq bH bV dB dC=>?_
 have fG:=Ay bH ao.lt
 have fH:=aj.cn bH
 replace ⟨h1,ao,aW,aX,aY,aZ,ba,bg,bh,aj⟩:=(sn [ak] bV bH).g10 h1 ao aW aX aY aZ ba bg bh aj
 refine .sc [.slice cW ((((((⟨⟨⟨[],[]⟩,[],[]⟩,⟨[],[],[],1⟩⟩:Wld)).store).idx).names).length) cX,.slice cY ((((((⟨⟨⟨[],[]⟩,[],[]⟩,⟨[],[],[],1⟩⟩:Wld)).store).idx).AY).length) cZ,.slice c7 (((((⟨⟨⟨[],[]⟩,[],[]⟩,⟨[],[],[],1⟩⟩:Wld)).store).parts).length) c8,.slice da (((((⟨⟨⟨[],[]⟩,[],[]⟩,⟨[],[],[],1⟩⟩:Wld)).store).mem).length) db,.slice de (((((⟨⟨⟨[],[]⟩,[],[]⟩,⟨[],[],[],1⟩⟩:Wld)).disk).files).length) df,.slice dh (((((⟨⟨⟨[],[]⟩,[],[]⟩,⟨[],[],[],1⟩⟩:Wld)).disk).list).length) dj,.slice dm (((((⟨⟨⟨[],[]⟩,[],[]⟩,⟨[],[],[],1⟩⟩:Wld)).disk).names).length) dq,vI ((((⟨⟨⟨[],[]⟩,[],[]⟩,⟨[],[],[],1⟩⟩:Wld)).disk).next)] dB fun cr bW dD dE=>?_
 replace ⟨h1,ao,aW,aX,aY,aZ,ba,bg,bh,aj⟩:=(so [am,ak] bW).g10 h1 ao aW aX aY aZ ba bg bh aj
 refine .d<|.s<|.s<|.g<|.r 1<|.d<|.b 0<|T.loop (X:=Nat × (List (List Tag)) × (Option Addr) × Nat × Nat × (List Pst) × (Option Addr) × Nat × Nat × (List Prt) × (Option Addr) × Nat × Nat × (List Smp) × (Option Addr) × Nat × Nat × (List Fil) × (Option Addr) × Nat × Nat × (List Int) × (Option Addr) × Nat × Nat × (List (List Tag)) × (Option Addr) × Nat × Nat × Int) (0,(((((⟨⟨⟨[],[]⟩,[],[]⟩,⟨[],[],[],1⟩⟩:Wld)).store).idx).names:List (List Tag)),cW,(((((⟨⟨⟨[],[]⟩,[],[]⟩,⟨[],[],[],1⟩⟩:Wld)).store).idx).names).length,cX,(((((⟨⟨⟨[],[]⟩,[],[]⟩,⟨[],[],[],1⟩⟩:Wld)).store).idx).AY:List Pst),cY,(((((⟨⟨⟨[],[]⟩,[],[]⟩,⟨[],[],[],1⟩⟩:Wld)).store).idx).AY).length,cZ,((((⟨⟨⟨[],[]⟩,[],[]⟩,⟨[],[],[],1⟩⟩:Wld)).store).parts:List Prt),c7,((((⟨⟨⟨[],[]⟩,[],[]⟩,⟨[],[],[],1⟩⟩:Wld)).store).parts).length,c8,((((⟨⟨⟨[],[]⟩,[],[]⟩,⟨[],[],[],1⟩⟩:Wld)).store).mem:List Smp),da,((((⟨⟨⟨[],[]⟩,[],[]⟩,⟨[],[],[],1⟩⟩:Wld)).store).mem).length,db,((((⟨⟨⟨[],[]⟩,[],[]⟩,⟨[],[],[],1⟩⟩:Wld)).disk).files:List Fil),de,((((⟨⟨⟨[],[]⟩,[],[]⟩,⟨[],[],[],1⟩⟩:Wld)).disk).files).length,df,((((⟨⟨⟨[],[]⟩,[],[]⟩,⟨[],[],[],1⟩⟩:Wld)).disk).list:List Int),dh,((((⟨⟨⟨[],[]⟩,[],[]⟩,⟨[],[],[],1⟩⟩:Wld)).disk).list).length,dj,((((⟨⟨⟨[],[]⟩,[],[]⟩,⟨[],[],[],1⟩⟩:Wld)).disk).names:List (List Tag)),dm,((((⟨⟨⟨[],[]⟩,[],[]⟩,⟨[],[],[],1⟩⟩:Wld)).disk).names).length,dq,(((⟨⟨⟨[],[]⟩,[],[]⟩,⟨[],[],[],1⟩⟩:Wld)).disk).next) (fun (i,aa,a_w_0,n_w_0,c_w_0,ab,a_w_1,n_w_1,c_w_1,ac,a_w_2,n_w_2,c_w_2,ae,a_w_3,n_w_3,c_w_3,af,a_w_4,n_w_4,c_w_4,ag,a_w_5,n_w_5,c_w_5,ah,a_w_6,n_w_6,c_w_6,ai)=>[(0,.slice a1 events.length c1),(2,.pointer (some ⟨ak,0,none⟩)),(4,.pointer (some ⟨am,0,none⟩)),(5,vI (i:Int))]) (fun (i,aa,a_w_0,n_w_0,c_w_0,ab,a_w_1,n_w_1,c_w_1,ac,a_w_2,n_w_2,c_w_2,ae,a_w_3,n_w_3,c_w_3,af,a_w_4,n_w_4,c_w_4,ag,a_w_5,n_w_5,c_w_5,ah,a_w_6,n_w_6,c_w_6,ai) aU=>Chg (ins [am]) cr aU∧RepS aU (nin (fo F w.heap.size) [am,ak]) a_w_0 n_w_0 c_w_0 aa∧RepS aU (nin (fo F w.heap.size) [am,ak]) a_w_1 n_w_1 c_w_1 ab∧RepS aU (nin (fo F w.heap.size) [am,ak]) a_w_2 n_w_2 c_w_2 ac∧RepS aU (nin (fo F w.heap.size) [am,ak]) a_w_3 n_w_3 c_w_3 ae∧RepS aU (nin (fo F w.heap.size) [am,ak]) a_w_4 n_w_4 c_w_4 af∧RepS aU (nin (fo F w.heap.size) [am,ak]) a_w_5 n_w_5 c_w_5 ag∧RepS aU (nin (fo F w.heap.size) [am,ak]) a_w_6 n_w_6 c_w_6 ah∧Box aU am 37 [.slice a_w_0 n_w_0 c_w_0,.slice a_w_1 n_w_1 c_w_1,.slice a_w_2 n_w_2 c_w_2,.slice a_w_3 n_w_3 c_w_3,.slice a_w_4 n_w_4 c_w_4,.slice a_w_5 n_w_5 c_w_5,.slice a_w_6 n_w_6 c_w_6,vI ai]∧(i≤events.length)∧((events.drop i).foldl doW ⟨⟨⟨aa,ab⟩,ac,ae⟩,⟨af,ag,ah,ai⟩⟩=MY events)∧(WV ⟨⟨⟨aa,ab⟩,ac,ae⟩,⟨af,ag,ah,ai⟩⟩)) (fun (i,aa,a_w_0,n_w_0,c_w_0,ab,a_w_1,n_w_1,c_w_1,ac,a_w_2,n_w_2,c_w_2,ae,a_w_3,n_w_3,c_w_3,af,a_w_4,n_w_4,c_w_4,ag,a_w_5,n_w_5,c_w_5,ah,a_w_6,n_w_6,c_w_6,ai)=>events.length - i) AA ⟨AA,AA,AA,AA,trivial⟩ ⟨Chg.refl _ _,aW,aX,aY,aZ,ba,bg,bh,dD,AB,AF,(by exact WV.new)⟩ ?_
 rintro ⟨i,aa,a_w_0,n_w_0,c_w_0,ab,a_w_1,n_w_1,c_w_1,ac,a_w_2,n_w_2,c_w_2,ae,a_w_3,n_w_3,c_w_3,af,a_w_4,n_w_4,c_w_4,ag,a_w_5,n_w_5,c_w_5,ah,a_w_6,n_w_6,c_w_6,ai⟩ fI aU ⟨aP,aM,aN,aC,aD,aE,aF,aG,ar,fJ,fK,fM⟩ bJ
 have dV:Cov (ins [am]) cr am:=⟨.inl AI⟩
 have bM:Mv [am,ak] [am,ak] cr aU:=Mv.inl aP (all_cons AI all_nil) (all_cons (.inl AI) (all_cons (.inl AJ) all_nil))
 replace ⟨h1,ao,aj⟩:=(sp bM aP).g3 h1 ao aj
 refine .s<|.s<|.g<|.r 3<|.bp ((i:Int)< (events.length:Int)) (fun cu=>?_) (fun cu=>?_)
 ·refine .d<|.ct<|.sk<|.s<|.b 1<|.gd nil 5 fun fN bN=>?_
  replace ⟨h1,ao,ar,aM,aN,aC,aD,aE,aF,aG,aj,aP⟩:=(se [am,ak] bN).g12 h1 ao ar aM aN aC aD aE aF aG aj aP
  refine .ln 0 ar id<|.r [1,2] ?_
  have cw:i< events.length:=AB
  refine .ix 3 i 6 h1 cw ?_
  obtain ⟨aq,bF⟩:∃ y,events[i]? = some y:=⟨_,AU AB⟩
  have eC:=AZ bF
  obtain ⟨_,⟨fO,fP,fQ,rfl,bD⟩,cx⟩:=h1.elem i aq bF
  have cy:=bD.len
  subst cy
  refine .lg 4 0 cx id<|.d fun bX bO=>?_
  replace ⟨ao,ar,aM,aN,aC,aD,aE,aF,aG,bD,aj,aP⟩:=(se [am,ak] bO).g12 ao ar aM aN aC aD aE aF aG bD aj aP
  refine .cl (Ll (⟨(⟨(⟨aa,ab⟩:Idx),ac,ae⟩:Sto),(⟨af,ag,ah,ai⟩:Dsk)⟩:Wld) aq aM aN aC aD aE aF aG bD (by assumption:WV ⟨⟨⟨aa,ab⟩,ac,ae⟩,⟨af,ag,ah,ai⟩⟩).wd.wi (w:=bX) (F:=nin (fo F w.heap.size) [am,ak])) ?_
  rintro fR fS ⟨⟨_,rfl,⟨bY,fT,bZ,b7,fU,b8,b9,fV,cd,ce,fW,cg,ci,fX,cj,ck,fY,cm,co,fZ,cq,rfl,bj,bk,bm,bn,bo,bq,br⟩⟩,bP⟩
  have aQ:=al2 ar.lt ao.lt
  have aS:Gb w.heap.size bX.heap.size:=aj.size
  replace ⟨ao,ar,aM,aN,aC,aD,aE,aF,aG,aj,aP⟩:=(se [am,ak] bP).g11 ao ar aM aN aC aD aE aF aG aj aP
  replace bj:=RepS.Gf (M:=[am,ak]) bj aQ aS
  have eE:=bj.max
  replace bk:=RepS.Gf (M:=[am,ak]) bk aQ aS
  have eF:=bk.max
  replace bm:=RepS.Gf (M:=[am,ak]) bm aQ aS
  have eG:=bm.max
  replace bn:=RepS.Gf (M:=[am,ak]) bn aQ aS
  have eH:=bn.max
  replace bo:=RepS.Gf (M:=[am,ak]) bo aQ aS
  have eI:=bo.max
  replace bq:=RepS.Gf (M:=[am,ak]) bq aQ aS
  have eJ:=bq.max
  replace br:=RepS.Gf (M:=[am,ak]) br aQ aS
  have eK:=br.max
  have cz:=bj.len
  subst cz
  have cA:=bk.len
  subst cA
  have cB:=bm.len
  subst cB
  have cC:=bn.len
  subst cC
  have cD:=bo.len
  subst cD
  have cE:=bq.len
  subst cE
  have cF:=br.len
  subst cF
  refine .sc [.slice bY (((((doW (⟨(⟨(⟨aa,ab⟩:Idx),ac,ae⟩:Sto),(⟨af,ag,ah,ai⟩:Dsk)⟩:Wld) aq).store).idx).names).length) bZ,.slice b7 (((((doW (⟨(⟨(⟨aa,ab⟩:Idx),ac,ae⟩:Sto),(⟨af,ag,ah,ai⟩:Dsk)⟩:Wld) aq).store).idx).AY).length) b8,.slice b9 ((((doW (⟨(⟨(⟨aa,ab⟩:Idx),ac,ae⟩:Sto),(⟨af,ag,ah,ai⟩:Dsk)⟩:Wld) aq).store).parts).length) cd,.slice ce ((((doW (⟨(⟨(⟨aa,ab⟩:Idx),ac,ae⟩:Sto),(⟨af,ag,ah,ai⟩:Dsk)⟩:Wld) aq).store).mem).length) cg,.slice ci ((((doW (⟨(⟨(⟨aa,ab⟩:Idx),ac,ae⟩:Sto),(⟨af,ag,ah,ai⟩:Dsk)⟩:Wld) aq).disk).files).length) cj,.slice ck ((((doW (⟨(⟨(⟨aa,ab⟩:Idx),ac,ae⟩:Sto),(⟨af,ag,ah,ai⟩:Dsk)⟩:Wld) aq).disk).list).length) cm,.slice co ((((doW (⟨(⟨(⟨aa,ab⟩:Idx),ac,ae⟩:Sto),(⟨af,ag,ah,ai⟩:Dsk)⟩:Wld) aq).disk).names).length) cq,vI (((doW (⟨(⟨(⟨aa,ab⟩:Idx),ac,ae⟩:Sto),(⟨af,ag,ah,ai⟩:Dsk)⟩:Wld) aq).disk).next)] ar fun f5 bG cG cH=>?_
  replace ⟨ao,aM,aN,aC,aD,aE,aF,aG,bj,bk,bm,bn⟩:=(so [am,ak] bG).g12 ao aM aN aC aD aE aF aG bj bk bm bn
  replace ⟨bo,bq,br,aj,aP⟩:=(so [am,ak] bG).g5 bo bq br aj aP
  exact .d<|.ib 1<|.g<|.r 1<|.it ((i:Int)+1)<|.r 1<|.d<|bJ (i+1,(((doW (⟨(⟨(⟨aa,ab⟩:Idx),ac,ae⟩:Sto),(⟨af,ag,ah,ai⟩:Dsk)⟩:Wld) aq).store).idx).names,bY,((((doW (⟨(⟨(⟨aa,ab⟩:Idx),ac,ae⟩:Sto),(⟨af,ag,ah,ai⟩:Dsk)⟩:Wld) aq).store).idx).names).length,bZ,(((doW (⟨(⟨(⟨aa,ab⟩:Idx),ac,ae⟩:Sto),(⟨af,ag,ah,ai⟩:Dsk)⟩:Wld) aq).store).idx).AY,b7,((((doW (⟨(⟨(⟨aa,ab⟩:Idx),ac,ae⟩:Sto),(⟨af,ag,ah,ai⟩:Dsk)⟩:Wld) aq).store).idx).AY).length,b8,((doW (⟨(⟨(⟨aa,ab⟩:Idx),ac,ae⟩:Sto),(⟨af,ag,ah,ai⟩:Dsk)⟩:Wld) aq).store).parts,b9,(((doW (⟨(⟨(⟨aa,ab⟩:Idx),ac,ae⟩:Sto),(⟨af,ag,ah,ai⟩:Dsk)⟩:Wld) aq).store).parts).length,cd,((doW (⟨(⟨(⟨aa,ab⟩:Idx),ac,ae⟩:Sto),(⟨af,ag,ah,ai⟩:Dsk)⟩:Wld) aq).store).mem,ce,(((doW (⟨(⟨(⟨aa,ab⟩:Idx),ac,ae⟩:Sto),(⟨af,ag,ah,ai⟩:Dsk)⟩:Wld) aq).store).mem).length,cg,((doW (⟨(⟨(⟨aa,ab⟩:Idx),ac,ae⟩:Sto),(⟨af,ag,ah,ai⟩:Dsk)⟩:Wld) aq).disk).files,ci,(((doW (⟨(⟨(⟨aa,ab⟩:Idx),ac,ae⟩:Sto),(⟨af,ag,ah,ai⟩:Dsk)⟩:Wld) aq).disk).files).length,cj,((doW (⟨(⟨(⟨aa,ab⟩:Idx),ac,ae⟩:Sto),(⟨af,ag,ah,ai⟩:Dsk)⟩:Wld) aq).disk).list,ck,(((doW (⟨(⟨(⟨aa,ab⟩:Idx),ac,ae⟩:Sto),(⟨af,ag,ah,ai⟩:Dsk)⟩:Wld) aq).disk).list).length,cm,((doW (⟨(⟨(⟨aa,ab⟩:Idx),ac,ae⟩:Sto),(⟨af,ag,ah,ai⟩:Dsk)⟩:Wld) aq).disk).names,co,(((doW (⟨(⟨(⟨aa,ab⟩:Idx),ac,ae⟩:Sto),(⟨af,ag,ah,ai⟩:Dsk)⟩:Wld) aq).disk).names).length,cq,((doW (⟨(⟨(⟨aa,ab⟩:Idx),ac,ae⟩:Sto),(⟨af,ag,ah,ai⟩:Dsk)⟩:Wld) aq).disk).next) _ _ ⟨AA,AA,AA,AA,trivial⟩ ⟨aP,bj,bk,bm,bn,bo,bq,br,cG,AB,(by exact Oa ‹_› ‹_›),(by exact WV.doA ‹_› _)⟩ (by (simp only []; omega))
 refine .d<|.cf<|.x 0 rfl<|.s<|.g<|.ln ar<|.cl (Kd (⟨(⟨(⟨aa,ab⟩:Idx),ac,ae⟩:Sto),(⟨af,ag,ah,ai⟩:Dsk)⟩:Wld) aM.ta aN.ta aC.ta aD.ta aE.ta aF.ta aG.ta (by assumption:WV ⟨⟨⟨aa,ab⟩,ac,ae⟩,⟨af,ag,ah,ai⟩⟩).wd.wi (w:=aU) (F:=all)) ?_
 rintro f6 bu ⟨⟨dG,f7,dH,dI,f8,dJ,dK,f9,dL,aO,dM,dN,aK,dO,dP,aJ,dQ,dR,aH,dS,dT,rfl,az,aA,aB,aL,bw,aI,bz,eM,ay,bA,eO,eP,ax,bC,eQ,eR,eT⟩,bQ⟩
 have aR:=al2 ar.lt ao.lt
 have aT:Gb w.heap.size aU.heap.size:=aj.size
 have eU:=Cj bw ao.lt
 have eV:=Cj bw ar.lt
 have cI:=H6 bw aj.size
 have eW:=Cj bz ao.lt
 have eX:=Cj bz ar.lt
 have cJ:=H6 bz aj.size
 have eY:=Cj bA ao.lt
 have eZ:=Cj bA ar.lt
 have cK:=H6 bA aj.size
 have e7:=Cj bC ao.lt
 have e8:=Cj bC ar.lt
 have cL:=H6 bC aj.size
 replace ⟨ao,aj⟩:=(se [] bQ).g2 ao aj
 replace az:RepS bu (nin (ge w.heap.size) [aO,aK,aJ,aH,am,ak]) _ _ _ _:=RepS.E9 (s0:=w.heap.size) (M:=[am,ak]) az aR aT
 replace az:=az.base (G':=fo F w.heap.size) (fun _ _ h=>.inr h)
 have fa:=az.max
 replace aA:RepS bu (nin (ge w.heap.size) [aO,aK,aJ,aH,am,ak]) _ _ _ _:=RepS.E9 (s0:=w.heap.size) (M:=[am,ak]) aA aR aT
 replace aA:=aA.base (G':=fo F w.heap.size) (fun _ _ h=>.inr h)
 have fb:=aA.max
 replace aB:RepS bu (nin (ge w.heap.size) [aO,aK,aJ,aH,am,ak]) _ _ _ _:=RepS.E9 (s0:=w.heap.size) (M:=[am,ak]) aB aR aT
 replace aB:=aB.base (G':=fo F w.heap.size) (fun _ _ h=>.inr h)
 have fd:=aB.max
 replace aL:Own bu aO 158 (nin (ge w.heap.size) [aO,aK,aJ,aH,am,ak]) _ _ _:=Own.E9 (s0:=w.heap.size) (M:=[am,ak]) aL aR aT
 replace aL:=aL.base (G':=fo F w.heap.size) (fun _ _ h=>.inr h)
 replace aI:Own bu aK 148 (nin (ge w.heap.size) [aO,aK,aJ,aH,am,ak]) _ _ _:=Own.E9 (s0:=w.heap.size) (M:=[am,ak]) aI aR aT
 replace aI:=aI.base (G':=fo F w.heap.size) (fun _ _ h=>.inr h)
 replace ay:Own bu aJ 3 (nin (ge w.heap.size) [aO,aK,aJ,aH,am,ak]) _ _ _:=Own.E9 (s0:=w.heap.size) (M:=[am,ak]) ay aR aT
 replace ay:=ay.base (G':=fo F w.heap.size) (fun _ _ h=>.inr h)
 replace ax:Own bu aH 69 (nin (ge w.heap.size) [aO,aK,aJ,aH,am,ak]) _ _ _:=Own.E9 (s0:=w.heap.size) (M:=[am,ak]) ax aR aT
 replace ax:=ax.base (G':=fo F w.heap.size) (fun _ _ h=>.inr h)
 have cM:=az.len
 subst cM
 have cN:=aA.len
 subst cN
 have cO:=aB.len
 subst cO
 refine .sc [.slice dG ((((((Cq (⟨(⟨(⟨aa,ab⟩:Idx),ac,ae⟩:Sto),(⟨af,ag,ah,ai⟩:Dsk)⟩:Wld))).store).idx).names).length) dH,.slice dI ((((((Cq (⟨(⟨(⟨aa,ab⟩:Idx),ac,ae⟩:Sto),(⟨af,ag,ah,ai⟩:Dsk)⟩:Wld))).store).idx).AY).length) dJ,.slice dK (((((Cq (⟨(⟨(⟨aa,ab⟩:Idx),ac,ae⟩:Sto),(⟨af,ag,ah,ai⟩:Dsk)⟩:Wld))).store).parts).length) dL,vS aO dM dN,vS aK dO dP,vS aJ dQ dR,vS aH dS dT,vI ((((Cq (⟨(⟨(⟨aa,ab⟩:Idx),ac,ae⟩:Sto),(⟨af,ag,ah,ai⟩:Dsk)⟩:Wld))).disk).next)] ao fun bI bR cP cQ=>?_
 replace ⟨az,aA,aB,aL,aI,ay,ax,aj⟩:=(so [aO,aK,aJ,aH,am,ak] bR).g8 az aA aB aL aI ay ax aj
 refine .r 1<|.d ?_
 have bv:=aL.sl (.inr cI)
 replace ⟨az,aA,aB,aI,ay,ax⟩:=(sd bI [aO,aK,aJ,aH,am,ak] aO).g6 az aA aB aI ay ax
 have bE:=aI.sl (.inr cJ)
 replace ⟨az,aA,aB,bv,ay,ax⟩:=(sd bI [aK,aJ,aH,am,ak] aK).g6 az aA aB bv ay ax
 have bS:=ay.sl (.inr cK)
 replace ⟨az,aA,aB,bv,bE,ax⟩:=(sd bI [aJ,aH,am,ak] aJ).g6 az aA aB bv bE ax
 have dU:=ax.sl (.inr cL)
 replace ⟨az,aA,aB,bv,bE,bS⟩:=(sd bI [aH,am,ak] aH).g6 az aA aB bv bE bS
 exact .r2 func6 results6 (.bx cP) (.t (.bool true)) ⟨⟨_,(Ch rfl (AG (by (rw [NK ‹_›])))),(VS.of (y:=(⟨(⟨(⟨((((Cq (⟨(⟨(⟨aa,ab⟩:Idx),ac,ae⟩:Sto),(⟨af,ag,ah,ai⟩:Dsk)⟩:Wld))).store).idx).names,((((Cq (⟨(⟨(⟨aa,ab⟩:Idx),ac,ae⟩:Sto),(⟨af,ag,ah,ai⟩:Dsk)⟩:Wld))).store).idx).AY⟩:Idx),(((Cq (⟨(⟨(⟨aa,ab⟩:Idx),ac,ae⟩:Sto),(⟨af,ag,ah,ai⟩:Dsk)⟩:Wld))).store).parts,(((Cq (⟨(⟨(⟨aa,ab⟩:Idx),ac,ae⟩:Sto),(⟨af,ag,ah,ai⟩:Dsk)⟩:Wld))).store).mem⟩:Sto),(⟨(((Cq (⟨(⟨(⟨aa,ab⟩:Idx),ac,ae⟩:Sto),(⟨af,ag,ah,ai⟩:Dsk)⟩:Wld))).disk).files,(((Cq (⟨(⟨(⟨aa,ab⟩:Idx),ac,ae⟩:Sto),(⟨af,ag,ah,ai⟩:Dsk)⟩:Wld))).disk).list,(((Cq (⟨(⟨(⟨aa,ab⟩:Idx),ac,ae⟩:Sto),(⟨af,ag,ah,ai⟩:Dsk)⟩:Wld))).disk).names,(((Cq (⟨(⟨(⟨aa,ab⟩:Idx),ac,ae⟩:Sto),(⟨af,ag,ah,ai⟩:Dsk)⟩:Wld))).disk).next⟩:Dsk)⟩:Wld)) ⟨_,rfl,⟨_,_,_,_,_,_,_,_,_,_,_,_,_,_,_,_,_,_,_,_,_,rfl,az.w1,aA.w1,aB.w1,bv.w1,bE.w1,bS.w1,dU.w1⟩⟩ (by (rw [NK ‹_›]; exact (WV.copy (by assumption:WV ⟨⟨⟨aa,ab⟩,ac,ae⟩,⟨af,ag,ah,ai⟩⟩)).trans (QM ‹_› AB))))⟩,aj⟩
end Go.Proofs.YtcginoabkicdiaaGreat
namespace Go.Proofs.YtcginoabkicdiaaGreat
set_option maxRecDepth 100000
set_option maxHeartbeats 4000000
theorem Own.re {α:Type}[Rep α] {w:World}{r t n c s:Nat}{M:List Nat}{xs:List α}(h:Own w r t (nin (ge s) M) n c xs) (hr:s≤r):RepS w (ge s) (some ⟨r,0,none⟩) n c xs:=h.Ou (fun _ _ hb=>hb.1) hr
theorem RepS.mi {α:Type}[Rep α] {w:World}{a:Option Addr}{n c s:Nat}{M:List Nat}{xs:List α}(h:RepS w (nin (ge s) M) a n c xs):RepS w (ge s) a n c xs:=h.Bd fun _ _ hb=>hb.1
end Go.Proofs.YtcginoabkicdiaaGreat
namespace Go.Proofs.YtcginoabkicdiaaGreat
section
variable {w:World} {F:Nat→Prop} {x y:Wld} {e:Evt} {cs cs':List Value} {k:Int}
theorem JY (h:Rep.rep w all x cs) (h':Rep.rep w all y cs') (e:x=y):Calls Tryz.prog 9 [.agg cs.toArray,.agg cs'.toArray].toArray w (Ag fun rv w'=>rv=.bool true∧Ext w w'):=by
 obtain ⟨a0,n0,c0,a1,n1,c1,a2,n2,c2,a3,n3,c3,a4,n4,c4,a5,n5,c5,a6,n6,c6,rfl,r0,r1,r2,r3,r4,r5,r6⟩:=h
 obtain ⟨b0,m0,d0,b1,m1,d1,b2,m2,d2,b3,m3,d3,b4,m4,d4,b5,m5,d5,b6,m6,d6,rfl,s0,s1,s2,s3,s4,s5,s6⟩:=h'
 exact tv (by rw [e]; exact AG (beq_self_eq_true _)) (LF x y r0 r1 r2 r3 r4 r5 r6 s0 s1 s2 s3 s4 s5 s6)
theorem Jj (h:Rep.rep w all y cs) (p0:Vq y k) (p1:1≤k) (p2:k+Ea y≤4611686018427387904):Calls Tryz.prog 13 [.agg cs.toArray,vI k].toArray w (Ag fun rv w'=>rv=vI (k+Ea y)∧Ext w w'):=by
 obtain ⟨a0,n0,c0,a1,n1,c1,a2,n2,c2,a3,n3,c3,a4,n4,c4,a5,n5,c5,a6,n6,c6,rfl,r0,r1,r2,r3,r4,r5,r6⟩:=h
 exact JX y k r0 r1 r2 r3 r4 r5 r6 p0 p1 p2
theorem Pc {es:List Evt}{a a':Option Addr}{c c':Nat}(h:RepS w all a es.length c es) (h':RepS w all a' es.length c' es):Calls Tryz.prog 10 [.slice a es.length c,.slice a' es.length c'].toArray w (Ag fun rv w'=>rv=.bool true∧Ext w w') :=
 tv (AG (beq_self_eq_true _)) (J7 es es h h')
end
theorem Xi {es:List Evt}(h:M8 es≤1048576):lsZ Kj es≤10000000:=by
 have h1:lsZ Kj es≤5 * (M8 es:Nat):=by
  unfold M8
  clear h
  induction es with
  | nil=>show (0:Int)≤_; omega
  | cons e es ih =>
    have h2:=Xf e.name
    have h3:mL mEv (e::es)=1+mEv e+mL mEv es:=by unfold mL HO; simp only [List.length_cons,List.map_cons,List.sum_cons]; omega
    rw [h3]
    show Kj e+lsZ Kj es≤_
    have h4:Kj e=5+nmZ e.name:=rfl
    have h5:mEv e=mNm e.name:=rfl
    omega
 omega
theorem Pd (w:Wld):0≤Ea w:=by have:=Gz w.store; have:=G0 w.disk; unfold Ea; omega
theorem nb {a b:Int}(h:a=b):Value.bool (a != b)=.bool false:=by rw [h]; simp
theorem nbb (b:Bool):Value.bool (b != b)=.bool false:=by simp
theorem dl {a:Int}(h:¬ a< 0):Value.bool (decide (a< 0))=.bool false:=by rw [decide_eq_false h]
end Go.Proofs.YtcginoabkicdiaaGreat
namespace Go.Proofs.YtcginoabkicdiaaGreat
set_option maxRecDepth 100000
set_option maxHeartbeats 4000000
theorem Fq (es:List Evt){W:World}{a1:Option Addr}{n1 c1:Nat}(h1:RepS W all a1 n1 c1 es) (p0:Vl es):Calls Tryz.prog 3 [.slice a1 n1 c1].toArray W (Ag fun rv w'=>rv=.bool true∧Ext W w'):=by
 cases h1.len
 refine goT func3 ?_
 have Z:=SP.init W
 refine .s<|.g<|.r 1<|.d<|.s<|.g<|.r 1<|.d<|.s<|.g<|.r 2<|RG.qV Z (J5 es 1048576 (h1.ext Z.x) p0 AB) fun w Z=>?_
 refine .r 1<|.d<|.s<|.s<|.g<|.r 1<|.bp ((szI (M8 es) 1048576)< 0) (fun af=>?_) (fun af=>?_)
 ·exact .d<|.ct<|.s<|.g<|.r 1<|.d<|T.rt func3 results3 (.bool true) ⟨rfl,Z.x⟩
 have hm:M8 es≤1048576:=by have:=P5 af; omega
 refine .d<|.cf<|.sk<|.s<|.g<|.r 1<|RG.qA es Z (DY es (h1.ext Z.x) (Ql hm)) fun la1 lc2 w Z=>?_
 obtain ⟨F,f1,f2⟩:=Z.Xs
 refine RG.cl (Il es (F:=F) (Kk f1)) (fun v w ⟨⟨v0,hv,cs,hv2,hr⟩,hx⟩=>?_)
 subst hv; subst hv2
 obtain ⟨s4a0,s4n0,s4c0,s4a1,s4n1,s4c1,s4a2,s4n2,s4c2,s4a3,s4n3,s4c3,s4a4,s4n4,s4c4,s4a5,s4n5,s4c5,s4a6,s4n6,s4c6,rfl⟩:=Vt hr
 have Z:=f2 w (thR (Bi es).1 [.slice s4a0 s4n0 s4c0,.slice s4a1 s4n1 s4c1,.slice s4a2 s4n2 s4c2,.slice s4a3 s4n3 s4c3,.slice s4a4 s4n4 s4c4,.slice s4a5 s4n5 s4c5,.slice s4a6 s4n6 s4c6,.int .i64 (Bi es).1.disk.next]) hx hr
 refine .r 3<|RG.qB Z fun b6 w Z=>?_
 refine RG.qS Z 0 b6 37 [AH,AH,AH,AH,AH,AH,AH,.int .i64 0] [.slice s4a0 s4n0 s4c0,.slice s4a1 s4n1 s4c1,.slice s4a2 s4n2 s4c2,.slice s4a3 s4n3 s4c3,.slice s4a4 s4n4 s4c4,.slice s4a5 s4n5 s4c5,.slice s4a6 s4n6 s4c6,.int .i64 (Bi es).1.disk.next] fun w Z=>?_
 refine .r 1<|.d<|.s<|.g<|.r 1<|RG.qA es Z (DY es (h1.ext Z.x) (Ql hm)) fun la8 lc9 w Z=>?_
 refine .r 1<|.d<|.s<|.g<|.r 1<|RG.qT (Bi es).1 Z (Fm es (F:=all) (Kk (Z.it 0 [.s la8 lc9 es])) (Ql hm).2) fun la11 lc12 la13 lc14 la15 lc16 la17 lc18 la19 lc20 la21 lc22 la23 lc24 w Z=>?_
 refine .r 3<|RG.qB Z fun b26 w Z=>?_
 refine RG.qS Z 0 b26 37 [AH,AH,AH,AH,AH,AH,AH,.int .i64 0] (Shp.cells ((Bi es).1) [(la11,lc12),(la13,lc14),(la15,lc16),(la17,lc18),(la19,lc20),(la21,lc22),(la23,lc24)]) fun w Z=>?_
 refine .r 1<|.d<|.s<|.s<|.g<|RG.ln (Z.bx 0 b26 37 (Shp.cells ((Bi es).1) [(la11,lc12),(la13,lc14),(la15,lc16),(la17,lc18),(la19,lc20),(la21,lc22),(la23,lc24)]))<|RG.ln (Z.bx 3 b6 37 [.slice s4a0 s4n0 s4c0,.slice s4a1 s4n1 s4c1,.slice s4a2 s4n2 s4c2,.slice s4a3 s4n3 s4c3,.slice s4a4 s4n4 s4c4,.slice s4a5 s4n5 s4c5,.slice s4a6 s4n6 s4c6,.int .i64 (Bi es).1.disk.next])<|RG.qV Z (JY (N5 rfl (Z.it 1 (Lf.its ((Bi es).1) [(la11,lc12),(la13,lc14),(la15,lc16),(la17,lc18),(la19,lc20),(la21,lc22),(la23,lc24)]))) (Z.rp 4 (Bi es).1 [.slice s4a0 s4n0 s4c0,.slice s4a1 s4n1 s4c1,.slice s4a2 s4n2 s4c2,.slice s4a3 s4n3 s4c3,.slice s4a4 s4n4 s4c4,.slice s4a5 s4n5 s4c5,.slice s4a6 s4n6 s4c6,.int .i64 (Bi es).1.disk.next]) rfl) fun w Z=>?_
 refine .r 4<|RG.eqv (v':=.bool ((Bi es).2 != (Bi es).2)) (v:=.bool false) AA (nbb _)<|.r 1<|.d<|.cf<|.sk<|.s<|.s<|.g<|.r 2<|RG.qA es Z (DY es (h1.ext Z.x) (Ql hm)) fun la28 lc29 w Z=>?_
 refine RG.qV Z (Pc (Kk (Z.it 3 [.s la8 lc9 es])) (Kk (Z.it 0 [.s la28 lc29 es]))) fun w Z=>?_
 refine .r 1<|.d<|.cf<|.sk<|.s<|.g<|.r 1<|.d<|.s<|.g<|.r 2<|RG.qL Z 3 NS la8 lc9 es 1 AB (by have:=Xi hm; omega) (fun w v31 Z _ _ _=>?_)
 have hz0:=Ab Rz es
 refine .r 1<|.d<|.s<|.s<|.g<|.r 1<|RG.eqv (v':=.bool (decide ((1+lsZ Kj es)< 0))) (v:=.bool false) AA (dl AB)<|.r 1<|RG.ln (Z.bx 1 b26 37 (Shp.cells ((Bi es).1) [(la11,lc12),(la13,lc14),(la15,lc16),(la17,lc18),(la19,lc20),(la21,lc22),(la23,lc24)]))<|RG.ln (Z.bx 4 b6 37 [.slice s4a0 s4n0 s4c0,.slice s4a1 s4n1 s4c1,.slice s4a2 s4n2 s4c2,.slice s4a3 s4n3 s4c3,.slice s4a4 s4n4 s4c4,.slice s4a5 s4n5 s4c5,.slice s4a6 s4n6 s4c6,.int .i64 (Bi es).1.disk.next])<|RG.qV Z (JY (N5 rfl (Z.it 2 (Lf.its ((Bi es).1) [(la11,lc12),(la13,lc14),(la15,lc16),(la17,lc18),(la19,lc20),(la21,lc22),(la23,lc24)]))) (Z.rp 5 (Bi es).1 [.slice s4a0 s4n0 s4c0,.slice s4a1 s4n1 s4c1,.slice s4a2 s4n2 s4c2,.slice s4a3 s4n3 s4c3,.slice s4a4 s4n4 s4c4,.slice s4a5 s4n5 s4c5,.slice s4a6 s4n6 s4c6,.int .i64 (Bi es).1.disk.next]) rfl) fun w Z=>?_
 refine .r 5<|RG.eqv (v':=.bool ((Bi es).2 != (Bi es).2)) (v:=.bool false) AA (nbb _)<|.r 1<|.d<|.cf<|.sk<|.s<|.g<|.r 1<|.d<|.s<|.g<|RG.ln (Z.bx 1 b26 37 (Shp.cells ((Bi es).1) [(la11,lc12),(la13,lc14),(la15,lc16),(la17,lc18),(la19,lc20),(la21,lc22),(la23,lc24)]))<|.r 1<|RG.qW Z 2 Oh ((Bi es).1) [(la11,lc12),(la13,lc14),(la15,lc16),(la17,lc18),(la19,lc20),(la21,lc22),(la23,lc24)] 1 rfl AB (by have:=TI es; omega) (fun w v32 Z u33 m34 z35=>?_)
 have hz36:=Pd ((Bi es).1)
 refine .r 1<|.d<|.s<|.g<|.r 1<|.d<|.s<|.g<|RG.ln (Z.bx 1 b26 37 (Shp.cells ((Bi es).1) [(la11,lc12),(la13,lc14),(la15,lc16),(la17,lc18),(la19,lc20),(la21,lc22),(la23,lc24)]))<|.r 1<|RG.qV Z (Jj (U4 (N5 rfl (Z.it 2 (Lf.its v32 [(la11,lc12),(la13,lc14),(la15,lc16),(la17,lc18),(la19,lc20),(la21,lc22),(la23,lc24)]))) u33) m34 AB (by have:=TI es; omega)) fun w Z=>?_
 have hz37:=Pd v32
 refine .r 1<|.d<|.s<|.s<|.g<|.r 1<|RG.eqv (v':=.bool (decide ((1+Ea v32)< 0))) (v:=.bool false) AA (dl AB)<|.d<|.cf<|.sk<|.s<|.s<|.g<|.r 2<|RG.eqv (v':=.bool ((1+Ea v32) != (1+Ea ((Bi es).1)))) (v:=.bool false) AA (nb AB)<|.d<|.cf<|.sk<|.s<|.g<|.r 1<|RG.qA es Z (DY es (h1.ext Z.x) (Ql hm)) fun la38 lc39 w Z=>?_
 refine RG.qT (Bi es).1 Z (Fm es (F:=all) (Kk (Z.it 0 [.s la38 lc39 es])) (Ql hm).2) fun la41 lc42 la43 lc44 la45 lc46 la47 lc48 la49 lc50 la51 lc52 la53 lc54 w Z=>?_
 refine .r 3<|RG.qB Z fun b56 w Z=>?_
 refine RG.qS Z 0 b56 37 [AH,AH,AH,AH,AH,AH,AH,.int .i64 0] (Shp.cells ((Bi es).1) [(la41,lc42),(la43,lc44),(la45,lc46),(la47,lc48),(la49,lc50),(la51,lc52),(la53,lc54)]) fun w Z=>?_
 refine .r 1<|.d<|.s<|.s<|.g<|RG.ln (Z.bx 0 b56 37 (Shp.cells ((Bi es).1) [(la41,lc42),(la43,lc44),(la45,lc46),(la47,lc48),(la49,lc50),(la51,lc52),(la53,lc54)]))<|RG.ln (Z.bx 7 b6 37 [.slice s4a0 s4n0 s4c0,.slice s4a1 s4n1 s4c1,.slice s4a2 s4n2 s4c2,.slice s4a3 s4n3 s4c3,.slice s4a4 s4n4 s4c4,.slice s4a5 s4n5 s4c5,.slice s4a6 s4n6 s4c6,.int .i64 (Bi es).1.disk.next])<|RG.qV Z (JY (N5 rfl (Z.it 1 (Lf.its ((Bi es).1) [(la41,lc42),(la43,lc44),(la45,lc46),(la47,lc48),(la49,lc50),(la51,lc52),(la53,lc54)]))) (Z.rp 8 (Bi es).1 [.slice s4a0 s4n0 s4c0,.slice s4a1 s4n1 s4c1,.slice s4a2 s4n2 s4c2,.slice s4a3 s4n3 s4c3,.slice s4a4 s4n4 s4c4,.slice s4a5 s4n5 s4c5,.slice s4a6 s4n6 s4c6,.int .i64 (Bi es).1.disk.next]) rfl) fun w Z=>?_
 refine .r 4<|RG.eqv (v':=.bool ((Bi es).2 != (Bi es).2)) (v:=.bool false) AA (nbb _)<|.r 1<|.d<|.cf<|.sk<|.s<|.g<|.r 1<|.d<|.s<|.g<|RG.ln (Z.bx 4 b26 37 (Shp.cells ((Bi es).1) [(la11,lc12),(la13,lc14),(la15,lc16),(la17,lc18),(la19,lc20),(la21,lc22),(la23,lc24)]))<|.r 1<|RG.qV Z (Jj (U4 (N5 rfl (Z.it 5 (Lf.its v32 [(la11,lc12),(la13,lc14),(la15,lc16),(la17,lc18),(la19,lc20),(la21,lc22),(la23,lc24)]))) u33) m34 AB (by have:=TI es; omega)) fun w Z=>?_
 have hz58:=Pd v32
 exact .r 1<|.d<|.s<|.s<|.g<|.r 1<|RG.eqv (v':=.bool (decide ((1+Ea v32)< 0))) (v:=.bool false) AA (dl AB)<|.d<|.cf<|.sk<|.s<|.s<|.g<|.r 2<|RG.eqv (v':=.bool ((1+Ea v32) != (1+Ea ((Bi es).1)))) (v:=.bool false) AA (nb AB)<|.d<|.cf<|.sk<|.s<|.g<|.r 1<|.d<|T.rt func3 results3 (.bool true) ⟨rfl,Z.x⟩
end Go.Proofs.YtcginoabkicdiaaGreat
