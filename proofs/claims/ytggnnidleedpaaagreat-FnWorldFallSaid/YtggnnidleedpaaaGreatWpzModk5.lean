/- What the program computes, as plain functions. -/
import Derived.Test.YtggnnidleedpaaaGreatWpzSwk12
import Derived.Test.YtggnnidleedpaaaGreatWpzW2
open Go.Proofs.Tryz
set_option linter.unusedVariables false
set_option linter.unusedSimpArgs false
namespace Go.Proofs.YtggnnidleedpaaaGreat
def atV (t:Int):List Row→Int
 | []=>0
 | r::rs=>if r.t==t then r.v else atV t rs
def atB (t:Int):List Row→Bool
 | []=>false
 | r::rs=>if r.t==t then true else atB t rs
end Go.Proofs.YtggnnidleedpaaaGreat
namespace Go.Proofs.YtggnnidleedpaaaGreat
set_option maxRecDepth 100000
set_option maxHeartbeats 4000000
variable {w:World} {F:Nat→Prop} {a1:Option Addr} {n1 c1:Nat}
theorem M5 (b:List Row) (t:Int) (h1:RepS w F a1 n1 c1 b)  : Calls Tryz.prog 28 [.slice a1 n1 c1,.int .i64 t].toArray w (Am fun rv w'=>rv=.tuple #[.int .i64 (atV t b),.bool (atB t b)]∧Ext w w'):=by
 cases h1.len
 refine goT func28 ?_
 have Z:=(St.i0 F w).p h1
 have ag:=h1.max
 refine .s<|.g<|.r 2<|.d<|.s<|.s<|.g<|.r 1<|.d<|.b 0<|T.Lp (0:Nat) (fun i=>([(0,.slice a1 b.length c1),(1,vI t),(6,vI (i:Int))],[],[],b.length - i,(i≤b.length)∧(atV t (b.drop i)=atV t b)∧(atB t (b.drop i)=atB t b))) [] Z ⟨AD,AD,AD⟩ ?_
 rintro i al w Z ⟨ah,ai,aj⟩ aa
 refine .s<|.s<|.g<|.r 3<|.bp ((i:Int)< (b.length:Int)) (fun ab=>?_) (fun ab=>.d<|.cf<|.x 0 rfl<|.s<|.g<|.r 2<|.d<|T.r2 func28 results28 (.t (vI 0)) (.t (.bool false)) ⟨(Bx (congrArg (Value.int .i64) (by grind [atV,atB,Ab])) (AG (by grind [atV,atB,Ab]))),Z.xt⟩)
 exact .d<|.ct<|.sk<|.s<|.b 1<|.s<|.g<|.r 2<|gxd b i fun ac E ak=>RG.Ix 0 E Z<|.r 1<|Z.el 0 E fun Z=>RG.Lh 0 0 Z<|.r 1<|.eq ac.t t (fun ae=>.d<|.ct<|.s<|.g<|.r 2<|RG.Ix 1 E Z<|.r 1<|RG.Lh 0 1 Z<|.r 2<|.d<|T.r2 func28 results28 (.t (vI ac.v)) (.t (.bool true)) ⟨(Bx (congrArg (Value.int .i64) (by grind [atV,atB,Ab])) (AG (by grind [atV,atB,Ab]))),Z.xt⟩) fun ae=>.d<|.cf<|.sk<|.ib 1<|.g<|.r 1<|.it ((i:Int)+1)<|.r 1<|.d<|aa (i+1) _ _ AA (Z.to 0 [] 1) ⟨AB,(by grind [atV,atB]),(by grind [atV,atB])⟩ (by (simp only []; omega))
end Go.Proofs.YtggnnidleedpaaaGreat
