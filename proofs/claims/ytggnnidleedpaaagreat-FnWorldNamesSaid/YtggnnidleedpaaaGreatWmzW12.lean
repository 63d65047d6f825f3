/- walks; pruned haves; hints pruned; squeezed -/
import Derived.Test.YtggnnidleedpaaaGreatWmzW8
open Go.Proofs.Tryz
set_option linter.unusedVariables false
set_option linter.unusedSimpArgs false
namespace Go.Proofs.YtggnnidleedpaaaGreat
set_option maxRecDepth 100000
set_option maxHeartbeats 4000000
variable {w:World} {F:Nat→Prop}
theorem K8 (text_:Str) (by_:UInt8){F:Nat→Prop}  (p0:text_.length≤1000):Calls Tryz.prog 182 [.string (bs text_),.int .u8 (by_.toNat:Int)].toArray w (BB fun rv w'=>VL (ge w.heap.size) w' (HA text_ by_:List Txt) rv∧Ext w w'):=by
 refine goT func182<|.s<|.g<|.r 1<|.d<|.s<|.g<|.ns 1 9 [.string (bs [])] fun ab au ai aw aJ aK=>?_
 have aL:=Ae ai (Nat.le_refl _)
 have aM:Cov nil w ab:=Bf ai (Nat.le_refl _)
 have C:=aw
 have aN:Own (α:=Txt) au ab 9 (nin (ge w.heap.size) [ab]) 1 1 [(⟨[]⟩:Txt)]:=Own.lit aJ rfl AE ⟨rfl,rfl⟩
 refine .r 1<|.d<|.s<|.s<|.g<|.r 1<|.d<|.b 0<|T.loop (X:=(List Txt) × Nat × Nat × Nat × Nat) ((([(⟨[]⟩:Txt)]:List Txt):List Txt),ab,1,1,0) (fun (out,r_out,n_out,c_out,i)=>[(0,vT text_),(1,.int .u8 (by_.toNat:Int)),(5,vS r_out n_out c_out),(6,vI (i:Int))]) (fun (out,r_out,n_out,c_out,i) aG=>Chg (ins [ab]) au aG∧Own aG r_out 9 (nin (ge w.heap.size) [r_out]) n_out c_out out∧OrB r_out ab au.heap.size∧(i≤text_.length)∧(0< out.length)∧(out.length≤i+1)∧(∀ t∈out,t.s.length≤i)∧(Gm by_ out (text_.drop i)=HA text_ by_)) (fun (out,r_out,n_out,c_out,i)=>text_.length - i) AA ⟨AA,AA,AA,AA,trivial⟩ ⟨Chg.refl _ _,aN,BU,AD,AD,AD,AD,AF⟩ ?_
 rintro ⟨out,r_out,n_out,c_out,i⟩ bF aG ⟨E,J,ac,bn,bo,bq,br,bt⟩ ae
 have aO:=Bz ac aL C.size
 have bu:=BA ac aM C.size
 have aP:Cov (ins [ab]) au ab:=⟨.inl AI⟩
 have bv:=BA ac aP (Nat.le_refl _)
 replace C:=(si E).g1 C
 have bw:=J.len; have bz:=J.max
 refine .s<|.s<|.g<|.r 2<|RG.eqv (v:=vI (text_.length:Int)) AA (G3 text_)<|.bp ((i:Int)< (text_.length:Int)) (fun aQ=>?_) (fun aQ=>?_)
 ·refine .d<|.ct<|.sk<|.s<|.b 1<|.s<|.g<|.r 2 ?_
  obtain ⟨W,aj⟩:∃ y,text_[i]? = some y:=⟨_,AU AB⟩
  have bB:=Ai aj
  refine RG.Kt (t:=9) (s:=text_) (k:=.i64) (i:=(i:Int)) i AA AA AB aj<|.r 1<|.eq (W.toNat:Int) (by_.toNat:Int) (fun aR=>?_) (fun aR=>?_)
  ·refine .d<|.ct<|.g<|.r 1<|.ns 1 9 [.string (bs [])] fun aS bG ak ax aT aU=>?_
   have ay:=AX ak J.lt
   have aV:=Ae ak C.size
   replace ⟨J,C,E⟩:=(se [r_out] ax).g3 J C E
   have al:nin (ge w.heap.size) [r_out] aS∧aS≠r_out:=BR aV (all_cons ay all_nil) ay
   refine RG.Ax (T:=68) (ty:=68) (y:=(⟨[]⟩:Txt)) J aT AA AA rfl al AB fun bh bi bH af am az=>?_
   have aW:=CB am ac E.size
   replace ⟨C,E⟩:=(s1 az).g2 C E
   replace af:=af.rn r_out
   exact .r 1<|.d<|.ib 1<|.g<|.r 1<|.it ((i:Int)+1)<|.r 1<|.d<|ae ((out++[(⟨[]⟩:Txt)]),bh,n_out+1,bi,i+1) _ _ ⟨AA,AA,AA,AA,trivial⟩ ⟨E,af,aW,AB,(by simp <;> omega),(by (simp <;> omega)),(by exact Nh ‹_›),(by exact PM ‹_› ‹_› ‹_›)⟩ (by (simp only []; omega))
  refine .d<|.cf<|.gd nil 16 fun bj aA=>?_
  replace ⟨J,C,E⟩:=(se [r_out] aA).g3 J C E
  refine .r [0,1,2]<|GA.int (i:=3) ((n_out:Int) - 1) AA AB<|.r [4,5,6]<|GA.int (i:=7) ((n_out:Int) - 1) AA AB ?_
  have aX:n_out - 1< n_out:=AB
  refine GA.idx (i:=8) (b:=r_out) (o:=0) (n_out - 1) (len:=n_out) (z:=(n_out:Int) - 1) (sz:=1) AA AB aX rfl ?_
  obtain ⟨aa,ag⟩:∃ y,out[n_out - 1]? = some y:=⟨_,AU AB⟩
  have bg:=AV ag
  obtain ⟨_,rfl,ao⟩:=J.elem (n_out - 1) aa ag
  replace ao:Has bj ⟨r_out,0+(n_out - 1) * Rep.sz Txt,none⟩ [vT aa.s]:=by rw [Nat.zero_add]; exact ao
  refine .lh 9 0 ao id<|.r [10,11]<|GA.Kt (i:=12) (t:=9) (s:=text_) (k:=.i64) (z:=(i:Int)) AA i AA AA AB aj<|.go 13<|.ns 1 5 [.int .u8 (W.toNat:Int)] fun bI aB=>?_
  replace ⟨J,C,E⟩:=(se [r_out] aB).g3 J C E
  intro av bk aC aD aY aZ
  replace ⟨J,C,E⟩:=(sn [r_out] aD aC).g3 J C E
  have ba:Own (α:=UInt8) bk av 5 (nin (ge w.heap.size) [av,r_out]) 1 1 [W]:=Own.lit aY rfl AE ⟨rfl,rfl⟩
  refine GA.b2s (i:=14) (s:=22) (d:=9) (y:=W) AA ba AA AA<|GA.cat (i:=15) (t:=9) (s:=aa.s) (u:=[W]) AA AA (by have q1:∀ t∈out,t.s.length≤i:=‹_›; have q2:=q1 _ ‹_›; simp only [List.length_cons,List.length_nil]; omega)<|.d fun bm aE=>?_
  replace ⟨J,C,E⟩:=(se [av,r_out] aE).g3 J C E
  have bc:n_out - 1< n_out:=AB
  refine RG.idx (b:=r_out) (o:=0) (n_out - 1) (len:=n_out) (i:=(n_out:Int) - 1) (sz:=1) AA AB bc rfl ?_
  obtain ⟨_,rfl,aq⟩:=J.elem (n_out - 1) aa ag
  replace aq:Has bm ⟨r_out,0+(n_out - 1) * Rep.sz Txt,none⟩ [vT aa.s]:=by rw [Nat.zero_add]; exact aq
  refine RG.DQ (t':=9) (i:=(n_out - 1)) (k:=0) (v:=.string (bs (aa.s++[W]))) (cs:=[vT aa.s]) (⟨(aa.s++[W])⟩:Txt) J ag aq AA AA AA rfl fun aF ah ar aH=>?_
  replace ⟨C,E⟩:=(s1 ar).g2 C E
  refine .d<|.ib 1<|.g<|.r 1<|.it ((i:Int)+1)<|.r 1<|.d ?_
  have aI:Mv [av,r_out] [r_out] aF aF:=Mv.less (all_cons AJ all_nil)
  replace ah:=(sp aI (Chg.refl nil _)).g1 ah
  exact ae ((out.set (n_out - 1) (⟨(aa.s++[W])⟩:Txt)),r_out,n_out,c_out,i+1) _ _ ⟨AA,AA,AA,AA,trivial⟩ ⟨E,ah,ac,AB,(by simp <;> omega),(by (simp <;> omega)),(by exact Si ‹_› ‹_›),(by exact PN ‹_› ‹_› ‹_› AB ‹_›)⟩ (by (simp only []; omega))
 refine .d<|.cf<|.x 0 rfl<|.s<|.g<|.r 2<|.d ?_
 have bd:=J.sl aO
 exact .rt func182 results182 (vS r_out n_out c_out) ⟨(bd.vl (by exact Sh ‹_› AB) (fun _ _ h=>h.1)),C⟩
theorem J0 (w_:Str){F:Nat→Prop}  (p0:w_.length≤1000):Calls Tryz.prog 183 [.string (bs w_)].toArray w (BB fun rv w'=>(∃ v0,rv=.tuple #[v0,.bool ((Cm w_).2)]∧VS (ge w.heap.size) w' ((Cm w_).1:Cnd) v0)∧Ext w w'):=by
 refine goT func183<|.s<|.g<|.np 185 [.string (bs []),.string (bs []),.bool false] fun bM cr aA aB E bk=>?_
 have bS:Cov nil w bM:=Bf aA (Nat.le_refl _)
 have C:=aB
 refine .r 1<|.d<|.s<|.g<|.r 1<|.np 185 [.string (bs []),.string (bs []),.bool false] fun cu cw ae aC bm bn=>?_
 have bT:=AX ae E.lt
 have bU:=C.cn ae
 replace ⟨E,C⟩:=(se [] aC).g2 E C
 refine .sc [.string (bs []),.string (bs []),.bool false] bm fun cx aD J bo=>?_
 replace ⟨E,C⟩:=(s1 aD).g2 E C
 refine .d<|.s<|.s<|.g<|.r 1<|RG.eqv (v:=vI (w_.length:Int)) AA (G3 w_)<|.eq (w_.length:Int) 4 (fun bq=>?_) (fun bq=>?_)
 ·refine .r 2 ?_
  obtain ⟨aS,af⟩:∃ y,w_[1]? = some y:=⟨_,AU AB⟩
  refine RG.Kt (t:=9) (s:=w_) (k:=.i64) (i:=1) 1 AA AA AB af<|.eq (aS.toNat:Int) 33 (fun br=>?_) (fun br=>?_)
  ·refine .r 1<|.d<|.ct<|.s<|.g<|.r 1<|.ss 2 (.bool true) J fun cy aE W bt=>?_
   replace ⟨E,C⟩:=(s1 aE).g2 E C
   refine .d<|.gd nil 4 fun cz aF=>?_
   replace ⟨E,W,C⟩:=(se [] aF).g3 E W C
   refine .r [0]<|GA.Ku (i:=1) (t:=9) (lo:=none) (hi:=some (vI 1)) (s:=w_) AA 0 1 AA AA (.inl ⟨rfl,rfl⟩) (.inr ⟨_,_,rfl,by omega⟩) AB AB<|.r [2]<|GA.Ku (i:=3) (t:=9) (lo:=some (vI 2)) (hi:=none) (s:=w_) AA 2 w_.length AA AA (.inr ⟨_,_,rfl,by omega⟩) (.inl ⟨rfl,rfl⟩) AB AB<|.d fun cA aG=>?_
   replace ⟨E,W,C⟩:=(se [] aG).g3 E W C
   refine RG.cat (t:=9) (s:=((w_.take 1).drop 0)) (u:=((w_.take w_.length).drop 2)) AA (by simp; omega)<|.r 1<|.d<|.s<|.s<|.g<|.r 1<|RG.eqv (v:=vI ((((w_.take 1).drop 0)++((w_.take w_.length).drop 2)).length:Int)) AA (G3 (((w_.take 1).drop 0)++((w_.take w_.length).drop 2)))<|.ne ((((w_.take 1).drop 0)++((w_.take w_.length).drop 2)).length:Int) 3 (fun bu=>?_) (fun bu=>?_)
   ·refine .r 5<|.d<|.ct<|.s<|.g<|.ln W<|.sc [.string (bs []),.string (bs []),.bool true] E fun cB aH bv bw=>?_
    replace ⟨W,C⟩:=(s1 aH).g2 W C
    exact .r 1<|.d<|.r2 func183 results183 (.bx bv) (.t (.bool false)) ⟨⟨_,(CJ rfl (AG (by rw [Cs (Hn ‹_› ‹_› ‹_›) (.inl ‹_›)]))),(VS.of (y:=(⟨(⟨[],[]⟩:Tag),true⟩:Cnd)) ⟨_,rfl,rfl⟩ (by rw [Cs (Hn ‹_› ‹_› ‹_›) (.inl ‹_›)]))⟩,C⟩
   refine .r 2 ?_
   obtain ⟨bz,aI⟩:∃ y,(((w_.take 1).drop 0)++((w_.take w_.length).drop 2))[1]? = some y:=⟨_,AU AB⟩
   refine RG.Kt (t:=9) (s:=(((w_.take 1).drop 0)++((w_.take w_.length).drop 2))) (k:=.i64) (i:=1) 1 AA AA AB aI<|.ne (bz.toNat:Int) 61 (fun bA=>?_) (fun bA=>?_)
   ·refine .r 1<|.d<|.ct<|.s<|.g<|.ln W<|.sc [.string (bs []),.string (bs []),.bool true] E fun cC aJ bB bC=>?_
    replace ⟨W,C⟩:=(s1 aJ).g2 W C
    exact .r 1<|.d<|.r2 func183 results183 (.bx bB) (.t (.bool false)) ⟨⟨_,(CJ rfl (AG (by rw [Cs (Hn ‹_› ‹_› ‹_›) (.inr ⟨_,by assumption,by assumption⟩)]))),(VS.of (y:=(⟨(⟨[],[]⟩:Tag),true⟩:Cnd)) ⟨_,rfl,rfl⟩ (by rw [Cs (Hn ‹_› ‹_› ‹_›) (.inr ⟨_,by assumption,by assumption⟩)]))⟩,C⟩
   refine .r 1<|.d<|.cf<|.sk<|.s<|.gd nil 4 fun cD aK=>?_
   replace ⟨E,W,C⟩:=(se [] aK).g3 E W C
   refine .r [0]<|GA.Ku (i:=1) (t:=9) (lo:=none) (hi:=some (vI 1)) (s:=(((w_.take 1).drop 0)++((w_.take w_.length).drop 2))) AA 0 1 AA AA (.inl ⟨rfl,rfl⟩) (.inr ⟨_,_,rfl,by omega⟩) AB AB<|.r [2]<|GA.Ku (i:=3) (t:=9) (lo:=some (vI 2)) (hi:=none) (s:=(((w_.take 1).drop 0)++((w_.take w_.length).drop 2))) AA 2 ((((w_.take 1).drop 0)++((w_.take w_.length).drop 2)).length) AA AA (.inr ⟨_,_,rfl,by omega⟩) (.inl ⟨rfl,rfl⟩) AB AB<|.d fun cE aL=>?_
   replace ⟨E,W,C⟩:=(se [] aL).g3 E W C
   refine .r 2<|.sb 0 (.agg #[.string (bs (((((w_.take 1).drop 0)++((w_.take w_.length).drop 2)).take 1).drop 0)),.string (bs (((((w_.take 1).drop 0)++((w_.take w_.length).drop 2)).take ((((w_.take 1).drop 0)++((w_.take w_.length).drop 2)).length)).drop 2))]) [.string (bs (((((w_.take 1).drop 0)++((w_.take w_.length).drop 2)).take 1).drop 0)),.string (bs (((((w_.take 1).drop 0)++((w_.take w_.length).drop 2)).take ((((w_.take 1).drop 0)++((w_.take w_.length).drop 2)).length)).drop 2)),.bool true] W fun cF aM ac bD=>?_
   replace ⟨E,C⟩:=(s1 aM).g2 E C
   refine .d<|.s<|.gd nil 4 fun cG aN=>?_
   replace ⟨E,ac,C⟩:=(se [] aN).g3 E ac C
   refine .ln 0 ac id<|.r [1]<|.ln 2 ac id<|GA.Dt (i:=3) AA (fun bN bZ=>EN (⟨(((((w_.take 1).drop 0)++((w_.take w_.length).drop 2)).take 1).drop 0),(((((w_.take 1).drop 0)++((w_.take w_.length).drop 2)).take ((((w_.take 1).drop 0)++((w_.take w_.length).drop 2)).length)).drop 2)⟩:Tag) (w:=bN) (F:=all))<|.d fun cH aO=>?_
   replace ⟨E,C⟩:=(se [] aO).g2 E C
   refine .sc [.string (bs (((((w_.take 1).drop 0)++((w_.take w_.length).drop 2)).take 1).drop 0)),.string (bs (((((w_.take 1).drop 0)++((w_.take w_.length).drop 2)).take ((((w_.take 1).drop 0)++((w_.take w_.length).drop 2)).length)).drop 2)),.bool true] E fun cI aP bE bF=>?_
   replace C:=(s1 aP).g1 C
   exact .r 1<|.d<|.r2 func183 results183 (.bx bE) (.t (.bool (Bq (⟨(((((w_.take 1).drop 0)++((w_.take w_.length).drop 2)).take 1).drop 0),(((((w_.take 1).drop 0)++((w_.take w_.length).drop 2)).take ((((w_.take 1).drop 0)++((w_.take w_.length).drop 2)).length)).drop 2)⟩:Tag)))) ⟨⟨_,(CJ rfl (AG (by rw [ES (Hn ‹_› ‹_› ‹_›) ‹_› ‹_› ‹_›]))),(VS.of (y:=(⟨(⟨(((((w_.take 1).drop 0)++((w_.take w_.length).drop 2)).take 1).drop 0),(((((w_.take 1).drop 0)++((w_.take w_.length).drop 2)).take ((((w_.take 1).drop 0)++((w_.take w_.length).drop 2)).length)).drop 2)⟩:Tag),true⟩:Cnd)) ⟨_,rfl,rfl⟩ (by rw [ES (Hn ‹_› ‹_› ‹_›) ‹_› ‹_› ‹_›]))⟩,C⟩
  refine .r 1<|.d<|.cf<|.sk<|.s<|.s<|.g<|.r 1<|RG.eqv (v:=vI (w_.length:Int)) AA (G3 w_)<|.ne (w_.length:Int) 3 (fun bG=>?_) (fun bG=>?_)
  ·refine .r 5<|.d<|.ct<|.s<|.g<|.ln J<|.sc [.string (bs []),.string (bs []),.bool false] E fun cJ aQ bH bI=>?_
   replace ⟨J,C⟩:=(s1 aQ).g2 J C
   exact .r 1<|.d<|.r2 func183 results183 (.bx bH) (.t (.bool false)) ⟨⟨_,(CJ rfl (AG (by rw [Cs (Hm ‹_› ‹_› ‹_›) (.inl ‹_›)]))),(VS.of (y:=(⟨(⟨[],[]⟩:Tag),false⟩:Cnd)) ⟨_,rfl,rfl⟩ (by rw [Cs (Hm ‹_› ‹_› ‹_›) (.inl ‹_›)]))⟩,C⟩
  refine .r 2<|RG.Kt (t:=9) (s:=w_) (k:=.i64) (i:=1) 1 AA AA AB af<|.ne (aS.toNat:Int) 61 (fun bJ=>?_) (fun bJ=>?_)
  ·refine .r 1<|.d<|.ct<|.s<|.g<|.ln J<|.sc [.string (bs []),.string (bs []),.bool false] E fun b0 ag aT aU=>?_
   replace ⟨J,C⟩:=(s1 ag).g2 J C
   exact .r 1<|.d<|.r2 func183 results183 (.bx aT) (.t (.bool false)) ⟨⟨_,(CJ rfl (AG (by rw [Cs (Hm ‹_› ‹_› ‹_›) (.inr ⟨_,by assumption,by assumption⟩)]))),(VS.of (y:=(⟨(⟨[],[]⟩:Tag),false⟩:Cnd)) ⟨_,rfl,rfl⟩ (by rw [Cs (Hm ‹_› ‹_› ‹_›) (.inr ⟨_,by assumption,by assumption⟩)]))⟩,C⟩
  refine .r 1<|.d<|.cf<|.sk<|.s<|.gd nil 4 fun b6 ah=>?_
  replace ⟨E,J,C⟩:=(se [] ah).g3 E J C
  refine .r [0]<|GA.Ku (i:=1) (t:=9) (lo:=none) (hi:=some (vI 1)) (s:=w_) AA 0 1 AA AA (.inl ⟨rfl,rfl⟩) (.inr ⟨_,_,rfl,by omega⟩) AB AB<|.r [2]<|GA.Ku (i:=3) (t:=9) (lo:=some (vI 2)) (hi:=none) (s:=w_) AA 2 w_.length AA AA (.inr ⟨_,_,rfl,by omega⟩) (.inl ⟨rfl,rfl⟩) AB AB<|.d fun b7 ai=>?_
  replace ⟨E,J,C⟩:=(se [] ai).g3 E J C
  refine .r 2<|.sb 0 (.agg #[.string (bs ((w_.take 1).drop 0)),.string (bs ((w_.take w_.length).drop 2))]) [.string (bs ((w_.take 1).drop 0)),.string (bs ((w_.take w_.length).drop 2)),.bool false] J fun b8 aj aa aV=>?_
  replace ⟨E,C⟩:=(s1 aj).g2 E C
  refine .d<|.s<|.gd nil 4 fun b9 ak=>?_
  replace ⟨E,aa,C⟩:=(se [] ak).g3 E aa C
  refine .ln 0 aa id<|.r [1]<|.ln 2 aa id<|GA.Dt (i:=3) AA (fun bK bO=>EN (⟨((w_.take 1).drop 0),((w_.take w_.length).drop 2)⟩:Tag) (w:=bK) (F:=all))<|.d fun cd al=>?_
  replace ⟨E,C⟩:=(se [] al).g2 E C
  refine .sc [.string (bs ((w_.take 1).drop 0)),.string (bs ((w_.take w_.length).drop 2)),.bool false] E fun ce am aW aX=>?_
  replace C:=(s1 am).g1 C
  exact .r 1<|.d<|.r2 func183 results183 (.bx aW) (.t (.bool (Bq (⟨((w_.take 1).drop 0),((w_.take w_.length).drop 2)⟩:Tag)))) ⟨⟨_,(CJ rfl (AG (by rw [ES (Hm ‹_› ‹_› ‹_›) ‹_› ‹_› ‹_›]))),(VS.of (y:=(⟨(⟨((w_.take 1).drop 0),((w_.take w_.length).drop 2)⟩:Tag),false⟩:Cnd)) ⟨_,rfl,rfl⟩ (by rw [ES (Hm ‹_› ‹_› ‹_›) ‹_› ‹_› ‹_›]))⟩,C⟩
 refine .r 5<|.d<|.cf<|.sk<|.s<|.s<|.g<|.r 1<|RG.eqv (v:=vI (w_.length:Int)) AA (G3 w_)<|.ne (w_.length:Int) 3 (fun aY=>?_) (fun aY=>?_)
 ·refine .r 5<|.d<|.ct<|.s<|.g<|.ln J<|.sc [.string (bs []),.string (bs []),.bool false] E fun cg ao aZ ba=>?_
  replace ⟨J,C⟩:=(s1 ao).g2 J C
  exact .r 1<|.d<|.r2 func183 results183 (.bx aZ) (.t (.bool false)) ⟨⟨_,(CJ rfl (AG (by rw [Cs (Hl ‹_›) (.inl ‹_›)]))),(VS.of (y:=(⟨(⟨[],[]⟩:Tag),false⟩:Cnd)) ⟨_,rfl,rfl⟩ (by rw [Cs (Hl ‹_›) (.inl ‹_›)]))⟩,C⟩
 refine .r 2 ?_
 obtain ⟨aR,aq⟩:∃ y,w_[1]? = some y:=⟨_,AU AB⟩
 refine RG.Kt (t:=9) (s:=w_) (k:=.i64) (i:=1) 1 AA AA AB aq<|.ne (aR.toNat:Int) 61 (fun bc=>?_) (fun bc=>?_)
 ·refine .r 1<|.d<|.ct<|.s<|.g<|.ln J<|.sc [.string (bs []),.string (bs []),.bool false] E fun ci ar bd bg=>?_
  replace ⟨J,C⟩:=(s1 ar).g2 J C
  exact .r 1<|.d<|.r2 func183 results183 (.bx bd) (.t (.bool false)) ⟨⟨_,(CJ rfl (AG (by rw [Cs (Hl ‹_›) (.inr ⟨_,by assumption,by assumption⟩)]))),(VS.of (y:=(⟨(⟨[],[]⟩:Tag),false⟩:Cnd)) ⟨_,rfl,rfl⟩ (by rw [Cs (Hl ‹_›) (.inr ⟨_,by assumption,by assumption⟩)]))⟩,C⟩
 refine .r 1<|.d<|.cf<|.sk<|.s<|.gd nil 4 fun cj au=>?_
 replace ⟨E,J,C⟩:=(se [] au).g3 E J C
 refine .r [0]<|GA.Ku (i:=1) (t:=9) (lo:=none) (hi:=some (vI 1)) (s:=w_) AA 0 1 AA AA (.inl ⟨rfl,rfl⟩) (.inr ⟨_,_,rfl,by omega⟩) AB AB<|.r [2]<|GA.Ku (i:=3) (t:=9) (lo:=some (vI 2)) (hi:=none) (s:=w_) AA 2 w_.length AA AA (.inr ⟨_,_,rfl,by omega⟩) (.inl ⟨rfl,rfl⟩) AB AB<|.d fun ck av=>?_
 replace ⟨E,J,C⟩:=(se [] av).g3 E J C
 refine .r 2<|.sb 0 (.agg #[.string (bs ((w_.take 1).drop 0)),.string (bs ((w_.take w_.length).drop 2))]) [.string (bs ((w_.take 1).drop 0)),.string (bs ((w_.take w_.length).drop 2)),.bool false] J fun cm aw ab bh=>?_
 replace ⟨E,C⟩:=(s1 aw).g2 E C
 refine .d<|.s<|.gd nil 4 fun co ax=>?_
 replace ⟨E,ab,C⟩:=(se [] ax).g3 E ab C
 refine .ln 0 ab id<|.r [1]<|.ln 2 ab id<|GA.Dt (i:=3) AA (fun bL bR=>EN (⟨((w_.take 1).drop 0),((w_.take w_.length).drop 2)⟩:Tag) (w:=bL) (F:=all))<|.d fun cp ay=>?_
 replace ⟨E,C⟩:=(se [] ay).g2 E C
 refine .sc [.string (bs ((w_.take 1).drop 0)),.string (bs ((w_.take w_.length).drop 2)),.bool false] E fun cq az bi bj=>?_
 replace C:=(s1 az).g1 C
 exact .r 1<|.d<|.r2 func183 results183 (.bx bi) (.t (.bool (Bq (⟨((w_.take 1).drop 0),((w_.take w_.length).drop 2)⟩:Tag)))) ⟨⟨_,(CJ rfl (AG (by rw [ES (Hl ‹_›) ‹_› ‹_› ‹_›]))),(VS.of (y:=(⟨(⟨((w_.take 1).drop 0),((w_.take w_.length).drop 2)⟩:Tag),false⟩:Cnd)) ⟨_,rfl,rfl⟩ (by rw [ES (Hl ‹_›) ‹_› ‹_› ‹_›]))⟩,C⟩
theorem HC (text_:Str){F:Nat→Prop}  (p0:text_.length≤1000):Calls Tryz.prog 163 [.string (bs text_)].toArray w (BB fun rv w'=>(∃ v0,rv=.tuple #[v0,.bool ((Bn text_).2)]∧VL (ge w.heap.size) w' ((Bn text_).1:List Cnd) v0)∧Ext w w'):=by
 refine goT func163<|.s<|.g<|.r 2<|.d<|.s<|.g<|.ns 0 185 [] fun ab aU au aH bk bm=>?_
 have aI:=Ae au (Nat.le_refl _)
 have bn:Cov nil w ab:=Bf au (Nat.le_refl _)
 have C:=aH
 have ag:Own (α:=Cnd) aU ab 185 (nin (ge w.heap.size) [ab]) 0 0 []:=Own.Aj bk
 refine .r 1<|.d<|.s<|.s<|.g<|.r 1<|RG.eqv (v:=.bool ((text_==[42]))) AA (Te text_ [42]) ?_
 cases bY:(text_==[42])
 ·refine .d<|.cf<|.sk<|.s<|.g<|.r 1<|.cl (K8 text_ (44:UInt8) AB (w:=aU) (F:=all)) ?_
  rintro cu aF ⟨⟨bO,bP,rfl,am⟩,aJ⟩
  have aK:=al1 ag.lt
  have bo:Gb w.heap.size aU.heap.size:=C.size
  replace ⟨ag,C⟩:=(se [ab] aJ).g2 ag C
  have am:=am.fr aK bo
  have bZ:=am.max
  refine .r 1<|.d<|.s<|.s<|.g<|.r 1<|.d<|.b 0<|T.loop (X:=(List Cnd) × Nat × Nat × Nat × Nat) (([]:List Cnd),ab,0,0,0) (fun (out,r_out,n_out,c_out,i)=>[(4,vS r_out n_out c_out),(5,.slice bO ((HA text_ (44:UInt8)).length) bP),(6,vI (i:Int))]) (fun (out,r_out,n_out,c_out,i) av=>Chg (ins [ab]) aF av∧Own av r_out 185 (nin (ge w.heap.size) [r_out]) n_out c_out out∧OrB r_out ab aF.heap.size∧(i≤(HA text_ 44).length)∧(out.length≤i)∧(FX out ((HA text_ 44).drop i)=Bn text_)) (fun (out,r_out,n_out,c_out,i)=>(HA text_ 44).length - i) AA ⟨AA,AA,AA,trivial⟩ ⟨Chg.refl _ _,ag,BU,(by (simp; done)),(by (simp; done)),(by exact Mo ‹_›)⟩ ?_
  rintro ⟨out,r_out,n_out,c_out,i⟩ cw av ⟨J,E,ah,b0,b6,b7⟩ aw
  have bq:=Bz ah aI C.size
  have b8:=BA ah bn C.size
  have br:Cov (ins [ab]) aF ab:=⟨.inl AI⟩
  have b9:=BA ah br (Nat.le_refl _)
  have aL:Mv [ab] [r_out] aF av:=Mv.inl J (all_cons AI all_nil) (all_cons (Bb ah AI) all_nil)
  replace ⟨am,C⟩:=(sp aL J).g2 am C
  have cd:=E.len; have ce:=E.max
  refine .s<|.s<|.g<|.r 3<|.bp ((i:Int)< (((HA text_ (44:UInt8)).length):Int)) (fun bt=>?_) (fun bt=>?_)
  ·refine .d<|.ct<|.sk<|.s<|.b 1<|.s<|.g<|.r 2 ?_
   have bu:i< (HA text_ (44:UInt8)).length:=AB
   refine .ix i 1 am bu ?_
   obtain ⟨W,ax⟩:∃ y,(HA text_ (44:UInt8))[i]? = some y:=⟨_,AU AB⟩
   have cg:=Ai ax; have bN:=AV ax
   obtain ⟨_,rfl,bv⟩:=am.elem i W ax
   refine .lh 0 bv<|.cl (J0 W.s (by have q1:=(Lm text_ 44).1 _ ‹_›; omega) (w:=av) (F:=all)) ?_
   rintro cy cz ⟨⟨cA,rfl,⟨_,rfl,rfl⟩⟩,aM⟩
   replace ⟨E,C,J⟩:=(se [r_out] aM).g3 E C J
   refine .r 2 ?_
   cases ci:(Cm W.s).2
   ·refine .r 1<|.np 185 [.string (bs []),.string (bs []),.bool false] fun aG cB ai aN bw bz=>?_
    have cj:=AX ai E.lt
    have ck:=C.cn ai
    have cm:=J.cn ai
    replace ⟨E,C,J⟩:=(sn [r_out] aN ai).g3 E C J
    refine .sc [.string (bs ((Cm W.s).1.tag.key)),.string (bs ((Cm W.s).1.tag.val)),.bool ((Cm W.s).1.no)] bw fun cC aO bA bB=>?_
    replace ⟨E,C,J⟩:=(so [aG,r_out] aO).g3 E C J
    refine .r 1<|.d<|.s<|.s<|.g<|.r 7<|.d<|.ct<|.s<|.g<|.ns 0 185 [] fun ay bC aj aP bD bE=>?_
    have co:=AX aj E.lt
    have cp:=AX aj bA.lt
    have bF:=Ae aj C.size
    replace ⟨E,C,J⟩:=(sn [aG,r_out] aP aj).g3 E C J
    have bG:Own (α:=Cnd) bC ay 185 (nin (ge w.heap.size) [ay,aG,r_out]) 0 0 []:=Own.Aj bD
    refine .r 2<|.d ?_
    have bQ:=bG.sl bF
    replace E:=(sd bC [ay,aG,r_out] ay).g1 E
    exact .r2 func163 results163 (.t (vS ay 0 0)) (.t (.bool false)) ⟨⟨_,(CJ rfl (AG (by rw [Iw (Y:=Bn text_) ‹_› ‹_› (.inl ‹_›)]))),(bQ.vl (by rw [Iw (Y:=Bn text_) ‹_› ‹_› (.inl ‹_›)]) (fun _ _ h=>h.1))⟩,C⟩
   refine .r 1<|.np 185 [.string (bs []),.string (bs []),.bool false] fun ao cD ak aQ bH bI=>?_
   have bR:=AX ak E.lt
   have bS:=C.cn ak
   have bT:=J.cn ak
   replace ⟨E,C,J⟩:=(sn [r_out] aQ ak).g3 E C J
   refine .sc [.string (bs ((Cm W.s).1.tag.key)),.string (bs ((Cm W.s).1.tag.val)),.bool ((Cm W.s).1.no)] bH fun cq az ac aV=>?_
   replace ⟨E,C,J⟩:=(so [ao,r_out] az).g3 E C J
   refine .r 1<|.d<|.s<|.s<|.g<|.r 5<|.bp ((n_out:Int)≥3) (fun aW=>?_) (fun aW=>?_)
   ·refine .r 1<|.d<|.ct<|.s<|.g<|.ns 0 185 [] fun al aR ae aA aX aY=>?_
    have bU:=AX ae E.lt
    have bV:=AX ae ac.lt
    have aZ:=Ae ae C.size
    replace ⟨E,ac,C,J⟩:=(sn [ao,r_out] aA ae).g4 E ac C J
    have ba:Own (α:=Cnd) aR al 185 (nin (ge w.heap.size) [al,ao,r_out]) 0 0 []:=Own.Aj aX
    refine .r 2<|.d ?_
    have bJ:=ba.sl aZ
    replace E:=(sd aR [al,ao,r_out] al).g1 E
    exact .r2 func163 results163 (.t (vS al 0 0)) (.t (.bool false)) ⟨⟨_,(CJ rfl (AG (by rw [Iw (Y:=Bn text_) ‹_› ‹_› (.inr AB)]))),(bJ.vl (by rw [Iw (Y:=Bn text_) ‹_› ‹_› (.inr AB)]) (fun _ _ h=>h.1))⟩,C⟩
   refine .r 1<|.d<|.cf<|.sk<|.g<|.r 1<|.ln ac<|.ns 1 185 [.string (bs ((Cm W.s).1.tag.key)),.string (bs ((Cm W.s).1.tag.val)),.bool ((Cm W.s).1.no)] fun aS cr af aB bc bd=>?_
   have aC:=AX af E.lt
   have bg:=AX af ac.lt
   have bh:=Ae af C.size
   replace ⟨E,C,J⟩:=(se [ao,r_out] aB).g3 E C J
   have ar:nin (ge w.heap.size) [ao,r_out] aS∧aS≠r_out:=BR bh (all_cons bg (all_cons aC all_nil)) aC
   refine RG.Ax (T:=126) (ty:=126) (y:=(⟨(⟨(Cm W.s).1.tag.key,(Cm W.s).1.tag.val⟩:Tag),(Cm W.s).1.no⟩:Cnd)) E bc AA AA rfl ar (by have q1:=(Lm text_ 44).2; omega) fun aD bK aT aa aq aE=>?_
   have bi:=CB aq ah J.size
   replace ⟨C,J⟩:=(s1 aE).g2 C J
   replace aa:=aa.rn r_out
   have bW:=aa.len
   refine .r 1<|.d<|.ib 1<|.g<|.r 1<|.it ((i:Int)+1)<|.r 1<|.d ?_
   have bj:Mv [ao,aD] [aD] aT aT:=Mv.less (all_cons AJ all_nil)
   replace aa:=(sp bj (Chg.refl nil _)).g1 aa
   exact aw ((out++[(⟨(⟨(Cm W.s).1.tag.key,(Cm W.s).1.tag.val⟩:Tag),(Cm W.s).1.no⟩:Cnd)]),aD,n_out+1,bK,i+1) _ _ ⟨AA,AA,AA,trivial⟩ ⟨J,aa,bi,AB,(by simp; omega),(by exact PQ ‹_› ‹_› ‹_› AB)⟩ (by (simp only []; omega))
  refine .d<|.cf<|.x 0 rfl<|.s<|.g<|.r 3<|.d ?_
  have bL:=E.sl bq
  exact .r2 func163 results163 (.t (vS r_out n_out c_out)) (.t (.bool true)) ⟨⟨_,(CJ rfl (AG (by rw [Ni (Y:=Bn text_) ‹_› AB]))),(bL.vl (by rw [Ni (Y:=Bn text_) ‹_› AB]) (fun _ _ h=>h.1))⟩,C⟩
 refine .d<|.ct<|.s<|.g<|.r 3<|.d ?_
 have bM:=ag.sl aI
 exact .r2 func163 results163 (.t (vS ab 0 0)) (.t (.bool true)) ⟨⟨_,(CJ rfl (AG (by rw [JQ ‹_›]))),(bM.vl (by rw [JQ ‹_›]) (fun _ _ h=>h.1))⟩,C⟩
theorem IZ (text_:Str){F:Nat→Prop}  (p0:text_.length≤1000):Calls Tryz.prog 136 [.string (bs text_)].toArray w (BB fun rv w'=>(∃ (y:Bool),(∃ v0,rv=.tuple #[v0,.bool (y)]∧VL (ge w.heap.size) w' (E8 text_:List Tag) v0)∧(True))∧Ext w w'):=by
 refine goT func136<|.s<|.g<|.r 2<|.d<|.s<|.g<|.r 1<|.cl (HC text_ AB (w:=w) (F:=all)) ?_
 rintro dq dr ⟨⟨dt,rfl,⟨bS,bT,rfl,J⟩⟩,aX⟩
 have aY:∀ q_∈([]:List Nat),q_< w.heap.size:=all_nil
 have bU:Gb w.heap.size w.heap.size:=(Nat.le_refl _)
 have C:=aX
 have J:=J.fr aY bU
 have cT:=J.max
 refine .r 2 ?_
 cases cU:(Bn text_).2
 ·refine .r 3<|.d<|.s<|.g<|.ns 0 67 [] fun al aE aF aZ bV bW=>?_
  have bX:=C.cn aF
  replace ⟨J,C⟩:=(sn [] aZ aF).g2 J C
  have bY:Own (α:=Tag) aE al 67 (nin (ge w.heap.size) [al]) 0 0 []:=Own.Aj bV
  refine .r 1<|.d<|.s<|.s<|.g<|.r 1<|.d<|.b 0<|T.loop (X:=(List Tag) × Nat × Nat × Nat × Nat) (([]:List Tag),al,0,0,0) (fun (out,r_out,n_out,c_out,i)=>[(4,.slice bS ((Bn text_).1.length) bT),(5,.bool false),(6,vS r_out n_out c_out),(7,vI (i:Int))]) (fun (out,r_out,n_out,c_out,i) aW=>Chg (ins [al]) aE aW∧Own aW r_out 67 (nin (ge w.heap.size) [r_out]) n_out c_out out∧OrB r_out al aE.heap.size∧(i≤(Bn text_).1.length)∧(out.length≤i)∧(DZ out ((Bn text_).1.drop i)=DZ [] (Bn text_).1)) (fun (out,r_out,n_out,c_out,i)=>(Bn text_).1.length - i) AA ⟨AA,AA,AA,AA,trivial⟩ ⟨Chg.refl _ _,bY,BU,AD,AD,AD⟩ ?_
  rintro ⟨out,r_out,n_out,c_out,i⟩ du aW ⟨ab,W,ay,cV,cW,cX⟩ aG
  have cY:=BA ay bX C.size
  have bZ:Cov (ins [al]) aE al:=⟨.inl AI⟩
  have cZ:=BA ay bZ (Nat.le_refl _)
  have ba:Mv [al] [r_out] aE aW:=Mv.inl ab (all_cons AI all_nil) (all_cons (Bb ay AI) all_nil)
  replace ⟨J,C⟩:=(sp ba ab).g2 J C
  have c7:=W.len; have c8:=W.max
  refine .s<|.s<|.g<|.r 3<|.bp ((i:Int)< (((Bn text_).1.length):Int)) (fun b0=>?_) (fun b0=>?_)
  ·refine .d<|.ct<|.sk<|.s<|.b 1<|.s<|.s<|.g<|.r 2 ?_
   have b6:i< (Bn text_).1.length:=AB
   refine .ix i 3 J b6<|.r 1 ?_
   obtain ⟨aB,aH⟩:∃ y,((Bn text_).1)[i]? = some y:=⟨_,AU AB⟩
   have c9:=Ai aH
   obtain ⟨_,rfl,bc⟩:=J.elem i aB aH
   refine .lh 2 bc<|.d ?_
   cases da:aB.no
   ·refine .cf<|.sk<|.g<|.r 3 ?_
    have b7:i< (Bn text_).1.length:=AB
    refine .ix i 3 J b7<|.r 1<|.lg 0 bc<|.ns 1 67 [vT aB.tag.key,vT aB.tag.val] fun b8 dv aI bd b9 cd=>?_
    have bg:=AX aI W.lt
    have ce:=Ae aI C.size
    replace ⟨J,W,C,ab⟩:=(se [r_out] bd).g4 J W C ab
    have aJ:nin (ge w.heap.size) [r_out] b8∧b8≠r_out:=BR ce (all_cons bg all_nil) bg
    refine RG.Ax (T:=43) (ty:=43) (y:=aB.tag) W b9 AA AA rfl aJ (by have q1:=GI text_; omega) fun cB cC dw am av bh=>?_
    have cg:=CB av ay ab.size
    replace ⟨J,C,ab⟩:=(sa [r_out] bh av).g3 J C ab
    replace am:=am.rn r_out
    exact .r 1<|.d<|.ib 1<|.g<|.r 1<|RG.int ((i:Int)+1) AA (by have q1:=GI text_; omega)<|.r 1<|.d<|aG ((out++[aB.tag]),cB,n_out+1,cC,i+1) _ _ ⟨AA,AA,AA,AA,trivial⟩ ⟨ab,am,cg,AB,(by simp; omega),(by exact Lo ‹_› ‹_› ‹_›)⟩ (by (simp only []; omega))
   refine .ct<|.s<|.g<|.ns 0 67 [] fun aK ci az bi cj ck=>?_
   have df:=AX az W.lt
   have cm:=Ae az C.size
   replace ⟨J,W,C⟩:=(sn [r_out] bi az).g3 J W C
   have co:Own (α:=Tag) ci aK 67 (nin (ge w.heap.size) [aK,r_out]) 0 0 []:=Own.Aj cj
   refine .r 2<|.d ?_
   have cD:=co.sl cm
   replace ⟨J,W⟩:=(sd ci [aK,r_out] aK).g2 J W
   exact .r2 func136 results136 (.t (vS aK 0 0)) (.t (.bool false)) ⟨⟨(false:Bool),⟨_,(CJ rfl (AG AF)),(cD.vl (by rw [Lp (Ln (Y:=DZ [] (Bn text_).1) ‹_› ‹_› ‹_›)]) (fun _ _ h=>h.1))⟩,(by trivial)⟩,C⟩
  refine .d<|.cf<|.x 0 rfl<|.s<|.s<|.g<|.r 7<|.d<|.ct<|.s<|.g<|.ns 0 67 [] fun aL bj ah aM bo bq=>?_
  have cE:=AX ah W.lt
  have br:=Ae ah C.size
  replace ⟨J,C⟩:=(sn [r_out] aM ah).g2 J C
  have bt:Own (α:=Tag) bj aL 67 (nin (ge w.heap.size) [aL,r_out]) 0 0 []:=Own.Aj bo
  refine .r 2<|.d ?_
  have cp:=bt.sl br
  replace J:=(sd bj [aL,r_out] aL).g1 J
  exact .r2 func136 results136 (.t (vS aL 0 0)) (.t (.bool false)) ⟨⟨(false:Bool),⟨_,(CJ rfl (AG AF)),(cp.vl (by rw [Lq ‹_› AB (.inl ‹_›)]) (fun _ _ h=>h.1))⟩,(by trivial)⟩,C⟩
 refine .r 3<|.d<|.s<|.g<|.ns 0 67 [] fun ac ao ai aN bu bv=>?_
 have bw:=Ae ai C.size
 have bz:=C.cn ai
 replace ⟨J,C⟩:=(sn [] aN ai).g2 J C
 have bA:Own (α:=Tag) ao ac 67 (nin (ge w.heap.size) [ac]) 0 0 []:=Own.Aj bu
 refine .r 1<|.d<|.s<|.s<|.g<|.r 1<|.d<|.b 0<|T.loop (X:=(List Tag) × Nat × Nat × Nat × Nat) (([]:List Tag),ac,0,0,0) (fun (out,r_out,n_out,c_out,i)=>[(4,.slice bS ((Bn text_).1.length) bT),(5,.bool true),(6,vS r_out n_out c_out),(7,vI (i:Int))]) (fun (out,r_out,n_out,c_out,i) aq=>Chg (ins [ac]) ao aq∧Own aq r_out 67 (nin (ge w.heap.size) [r_out]) n_out c_out out∧OrB r_out ac ao.heap.size∧(i≤(Bn text_).1.length)∧(out.length≤i)∧(DZ out ((Bn text_).1.drop i)=DZ [] (Bn text_).1)) (fun (out,r_out,n_out,c_out,i)=>(Bn text_).1.length - i) AA ⟨AA,AA,AA,AA,trivial⟩ ⟨Chg.refl _ _,bA,BU,AD,AD,AD⟩ ?_
 rintro ⟨out,r_out,n_out,c_out,i⟩ dg aq ⟨aa,E,ae,cF,cG,cH⟩ aC
 have bB:=Bz ae bw C.size
 have cI:=BA ae bz C.size
 have bC:Cov (ins [ac]) ao ac:=⟨.inl AI⟩
 have cJ:=BA ae bC (Nat.le_refl _)
 have aO:Mv [ac] [r_out] ao aq:=Mv.inl aa (all_cons AI all_nil) (all_cons (Bb ae AI) all_nil)
 replace ⟨J,C⟩:=(sp aO aa).g2 J C
 have cK:=E.len; have cL:=E.max
 refine .s<|.s<|.g<|.r 3<|.bp ((i:Int)< (((Bn text_).1.length):Int)) (fun bD=>?_) (fun bD=>?_)
 ·refine .d<|.ct<|.sk<|.s<|.b 1<|.s<|.s<|.g<|.r 2 ?_
  have bE:i< (Bn text_).1.length:=AB
  refine .ix i 3 J bE<|.r 1 ?_
  obtain ⟨ag,aw⟩:∃ y,((Bn text_).1)[i]? = some y:=⟨_,AU AB⟩
  have cM:=Ai aw
  obtain ⟨_,rfl,aP⟩:=J.elem i ag aw
  refine .lh 2 aP<|.d ?_
  cases cN:ag.no
  ·refine .cf<|.sk<|.g<|.r 3 ?_
   have bF:i< (Bn text_).1.length:=AB
   refine .ix i 3 J bF<|.r 1<|.lg 0 aP<|.ns 1 67 [vT ag.tag.key,vT ag.tag.val] fun bk dh ax aQ bG bH=>?_
   have aR:=AX ax E.lt
   have bI:=Ae ax C.size
   replace ⟨E,C,aa⟩:=(se [r_out] aQ).g3 E C aa
   have aD:nin (ge w.heap.size) [r_out] bk∧bk≠r_out:=BR bI (all_cons aR all_nil) aR
   refine RG.Ax (T:=43) (ty:=43) (y:=ag.tag) E bG AA AA rfl aD (by have q1:=GI text_; omega) fun cr cu dj af aA aS=>?_
   have bJ:=CB aA ae aa.size
   replace ⟨C,aa⟩:=(s1 aS).g2 C aa
   replace af:=af.rn r_out
   exact .r 1<|.d<|.ib 1<|.g<|.r 1<|RG.int ((i:Int)+1) AA (by have q1:=GI text_; omega)<|.r 1<|.d<|aC ((out++[ag.tag]),cr,n_out+1,cu,i+1) _ _ ⟨AA,AA,AA,AA,trivial⟩ ⟨aa,af,bJ,AB,(by simp; omega),(by exact Lo ‹_› ‹_› ‹_›)⟩ (by (simp only []; omega))
  refine .ct<|.s<|.g<|.ns 0 67 [] fun ar bm aj aT bK bL=>?_
  have cQ:=AX aj E.lt
  have bM:=Ae aj C.size
  replace ⟨E,C⟩:=(sn [r_out] aT aj).g2 E C
  have bN:Own (α:=Tag) bm ar 67 (nin (ge w.heap.size) [ar,r_out]) 0 0 []:=Own.Aj bK
  refine .r 2<|.d ?_
  have cw:=bN.sl bM
  replace E:=(sd bm [ar,r_out] ar).g1 E
  exact .r2 func136 results136 (.t (vS ar 0 0)) (.t (.bool false)) ⟨⟨(false:Bool),⟨_,(CJ rfl (AG AF)),(cw.vl (by rw [Lp (Ln (Y:=DZ [] (Bn text_).1) ‹_› ‹_› ‹_›)]) (fun _ _ h=>h.1))⟩,(by trivial)⟩,C⟩
 refine .d<|.cf<|.x 0 rfl<|.s<|.s<|.g<|.r 4<|.cl (Es out (E.rep) (w:=aq) (F:=all)) ?_
 rintro dm dp ⟨rfl,aU⟩
 replace ⟨E,C⟩:=(se [r_out] aU).g2 E C
 cases cR:(BC out)
 ·refine .r 2<|.d<|.ct<|.s<|.g<|.ns 0 67 [] fun au bn ak aV bO bP=>?_
  have cS:=AX ak E.lt
  have bQ:=Ae ak C.size
  replace ⟨E,C⟩:=(sn [r_out] aV ak).g2 E C
  have bR:Own (α:=Tag) bn au 67 (nin (ge w.heap.size) [au,r_out]) 0 0 []:=Own.Aj bO
  refine .r 2<|.d ?_
  have cx:=bR.sl bQ
  replace E:=(sd bn [au,r_out] au).g1 E
  exact .r2 func136 results136 (.t (vS au 0 0)) (.t (.bool false)) ⟨⟨(false:Bool),⟨_,(CJ rfl (AG AF)),(cx.vl (by rw [Lq ‹_› AB (.inr ‹_›)]) (fun _ _ h=>h.1))⟩,(by trivial)⟩,C⟩
 refine .r 2<|.d<|.cf<|.sk<|.s<|.g<|.r 3<|.d ?_
 have cy:=E.sl bB
 exact .r2 func136 results136 (.t (vS r_out n_out c_out)) (.t (.bool true)) ⟨⟨(true:Bool),⟨_,(CJ rfl (AG AF)),(cy.vl (by rw [PR ‹_› AB ‹_› ‹_›]) (fun _ _ h=>h.1))⟩,(by trivial)⟩,C⟩
end Go.Proofs.YtggnnidleedpaaaGreat
namespace Go.Proofs.YtggnnidleedpaaaGreat
theorem NmD.sz {n:List Tag}(h:NmD n):Fc n:=⟨by have:=h.1; omega,fun t ht=>by
 obtain ⟨h1,h2⟩:=h.2 t ht
 simp only [List.mem_cons,List.not_mem_nil,or_false] at h1 h2
 constructor
 ·rcases h1 with h1 | h1 | h1 <;> rw [h1] <;> simp
 ·rcases h2 with h2 | h2 | h2 | h2 | h2 | h2 <;> rw [h2] <;> simp⟩
theorem NmD.nil:NmD []:=⟨by simp,by simp⟩
theorem Nj {y:Str}(h:(⟨y⟩:Txt)∈([(⟨[97,61,112]⟩:Txt),(⟨[97,61,113,44,98,61,112]⟩:Txt),(⟨[98,61,122,44,99,61,113]⟩:Txt)]:List Txt)):NmD (E8 y)∧y.length≤1000:=by
 simp only [List.mem_cons,List.not_mem_nil,or_false,Txt.mk.injEq] at h
 rcases h with rfl | rfl | rfl
 ·have:E8 [97,61,112]=[⟨[97],[112]⟩]:=by decide +kernel
  rw [this]
  exact ⟨⟨by simp,by simp [GQ]⟩,by simp⟩
 ·have:E8 [97,61,113,44,98,61,112]=[⟨[97],[113]⟩,⟨[98],[112]⟩]:=by decide +kernel
  rw [this]
  exact ⟨⟨by simp,by simp [GQ]⟩,by simp⟩
 ·have:E8 [98,61,122,44,99,61,113]=[⟨[98],[122]⟩,⟨[99],[113]⟩]:=by decide +kernel
  rw [this]
  exact ⟨⟨by simp,by simp [GQ]⟩,by simp⟩
def NsD (ns:List (List Tag)):Prop:=∀ n∈ns,NmD n
structure WD (w:Wld):Prop where
 wi:WI w
 sn:NsD w.store.idx.names
 dn:NsD w.disk.names
theorem NsD.nil:NsD []:=by intro n hn; cases hn
theorem WD.new:WD ⟨⟨⟨[],[]⟩,[],[]⟩,⟨[],[],[],1⟩⟩:=⟨WI.new,NsD.nil,NsD.nil⟩
theorem OH (Q:List (List Tag)→Prop):∀ (st:List Stp) (d:Dsk),Q d.names→(∀ x∈st,x.kind=2→Q x.names)→Q (st.foldl doD d).names:=by
 intro st
 induction st with
 | nil=>intro d h _; exact h
 | cons x xs ih =>
   intro d h hs
   refine ih (doD d x) ?_ (fun y hy=>hs y (by simp [hy]))
   unfold doD
   split
   ·exact h
   ·split
    ·exact hs x AD ‹_›
    ·split
     ·exact h
     ·exact h
theorem WD.steps {w:Wld}(h:WD w){st:List Stp}(hs:∀ x∈st,x.kind=2→NsD x.names) (cut:Int){s:Sto}(h2:NsD s.idx.names):NsD (BZ w st cut s).store.idx.names∧NsD (BZ w st cut s).disk.names:=by
 have h3:NsD (toD w.disk st cut).names:=OH NsD _ _ h.dn (fun x hx hk=>hs x (List.mem_of_mem_take hx) hk)
 unfold BZ
 split
 ·exact ⟨h.sn,h.dn⟩
 ·split
  ·exact ⟨h3,h3⟩
  ·exact ⟨h2,h3⟩
theorem Mp {s:Sto}{n:List Tag}{r:Row}(h:NsD s.idx.names) (hn:NmD n):NsD (CI s n r).1.idx.names:=by
 have h1:NsD (Bu s.idx n).1.names:=by
  unfold Bu
  split
  ·exact h
  ·split
   ·exact h
   ·intro m hm
    rcases List.mem_append.1 hm with hm | hm
    ·exact h m hm
    ·simp at hm; rw [hm]; exact hn
 unfold CI
 split
 ·exact h
 ·split
  ·exact h
  ·exact h1
theorem Mq (s:Sto):(As s).1.idx=s.idx:=by unfold As; split <;> rfl
theorem Mr (s:Sto) (a:Int):(Au s a).1.idx=s.idx:=by unfold Au; split <;> rfl
theorem OI {w:Wld}(h:WD w):∀ x∈BD w.disk w.store,x.kind=2→NsD x.names:=by
 unfold BD
 split
 ·intro x hx; cases hx
 ·intro x hx _
  simp only [List.mem_cons,List.not_mem_nil,or_false] at hx
  rcases hx with rfl | rfl
  ·exact NsD.nil
  ·exact h.sn
theorem OJ {d:Dsk}(h:NsD d.names) (a:Int):∀ x∈BF d a,x.kind=2→NsD x.names:=by
 unfold BF
 split
 ·intro x hx; cases hx
 ·intro x hx _
  simp only [List.mem_cons,List.not_mem_nil,or_false] at hx
  rcases hx with rfl | rfl | rfl | rfl
  ·exact NsD.nil
  ·exact h
  ·exact NsD.nil
  ·exact NsD.nil
theorem WD.do {w:Wld}(h:WD w){e:Evt}(he:NmD e.name):WD (doW w e):=by
 have key:NsD (doW w e).store.idx.names∧NsD (doW w e).disk.names:=by
  unfold doW
  split
  ·split
   ·exact ⟨Mp h.sn he,h.dn⟩
   ·exact ⟨h.sn,h.dn⟩
  ·split
   ·exact h.steps (OI h) _ (by rw [Mq]; exact h.sn)
   ·split
    ·exact h.steps (OJ h.dn _) _ (by rw [Mr]; exact h.sn)
    ·split
     ·exact ⟨h.dn,h.dn⟩
     ·exact ⟨h.sn,h.dn⟩
 exact ⟨h.wi.do e,key.1,key.2⟩
theorem WD.copy {w:Wld}(h:WD w):WD (Cd w):=⟨h.wi.copy,h.sn,h.dn⟩
def EvD (e:Evt):Prop:=NmD e.name∧Ek e.row
structure SD (s:Sto):Prop where
 idx:s.idx=idxOf s.idx.names
 nm:NmI s.idx.names
 nd:NsD s.idx.names
 np:s.parts.length≤6
 part:∀ p∈s.parts,PrtI p
 nm2:s.mem.length≤21
 mem:∀ m∈s.mem,0≤m.id∧m.id≤7∧Ek m.row
theorem PS {r:Row}(h:Bi r=true):Ek r:=by
 have h1:=K6 h
 have h2:=Q0 h
 unfold Ek
 omega
theorem WD.sd {w:Wld}(h:WD w):SD w.store:=⟨h.wi.sto.idx,h.wi.sto.nm,h.sn,h.wi.sto.np,h.wi.sto.part,by have:=h.wi.sto.nm2; omega,fun m hm=>by
 have h1:=h.wi.sto.Hg m hm
 exact ⟨by omega,by omega,PS (h.wi.sto.mem m hm).2.2⟩⟩
end Go.Proofs.YtggnnidleedpaaaGreat
namespace Go.Proofs.YtggnnidleedpaaaGreat
set_option maxRecDepth 100000
set_option maxHeartbeats 4000000
variable {w:World} {F:Nat→Prop} {a1 a2 a3 a4 a5 a6 a7:Option Addr} {n1 c1 n2 c2 n3 c3 n4 c4 n5 c5 n6 c6 n7 c7:Nat}
theorem EE  {F:Nat→Prop}{b:Nat}{ad:Option Addr}{cd p:Nat}{D:List UInt8}(hr:Box w b 95 [.slice ad D.length cd,.int .i64 (p:Int)]) (hD:RepS w (nin all [b]) ad D.length cd D) (hp:p+25≤1000000000)  : Calls Tryz.prog 93 [.pointer (some ⟨b,0,none⟩)].toArray w (BB fun rv w'=>(∃ (y:List Tag),VL (ge w.heap.size) w' (y:List Tag) rv∧(NmD y))∧∃ p':Nat,p'≤p+25∧Box w' b 95 [.slice ad D.length cd,.int .i64 (p':Int)]∧Chg (one b) w w'):=by
 refine goT func93 ?_
 refine .s<|.g<|.r 1<|.d<|.s<|.s<|.g<|.r 1<|.cl (BK 4 hr (hD.Bk AI) AB (w:=w) (F:=all)) ?_
 rintro aT am ⟨⟨aC,rfl,aK⟩,aU,aL,E,aa⟩
 replace hD:=(so [b] aa).g1 hD
 have C:Chg (one b) w am:=Chg.EW (Chg.refl (one b) w) aa (Cov.mk1 w b)
 refine .eq aC 0 (fun aq=>?_) (fun aq=>?_)
 ·refine .d<|.ct<|.s<|.g<|.r 1<|.cl (JO E (hD.Bk AI) AB (w:=am) (F:=all)) ?_
  rintro aV aW ⟨⟨ar,⟨aD,aE,rfl,ac⟩,aM⟩,aF,aN,au,ag⟩
  have ah:=al1 E.lt
  have av:Gb w.heap.size am.heap.size:=C.size
  replace ⟨hD,C⟩:=(so [b] ag).g2 hD C
  have ac:=ac.fr ah av
  exact .r 1<|.d<|.rt func93 results93 (.slice aD ar.length aE) ⟨⟨(ar:List Tag),(ac.vl AF (fun _ _ h=>h.1)),(by exact (by assumption:NmX _).1)⟩,aF,by omega,au,C⟩
 refine .d<|.cf<|.sk<|.s<|.g<|.r 1<|.ns 3 9 [.string (bs [97,61,112]),.string (bs [97,61,113,44,98,61,112]),.string (bs [98,61,122,44,99,61,113])] fun ae aw ab ai ax ay=>?_
 have az:=AX ab E.lt
 replace ⟨hD,E,C⟩:=(sn [b] ai ab).g3 hD E C
 have J:Own (α:=Txt) aw ae 9 (nin (ge w.heap.size) [ae,b]) 3 3 [(⟨[97,61,112]⟩:Txt),(⟨[97,61,113,44,98,61,112]⟩:Txt),(⟨[98,61,122,44,99,61,113]⟩:Txt)]:=Own.lit ax rfl AE ⟨rfl,rfl,rfl,rfl⟩
 refine .cl (Cl ([(⟨[97,61,112]⟩:Txt),(⟨[97,61,113,44,98,61,112]⟩:Txt),(⟨[98,61,122,44,99,61,113]⟩:Txt)]:List Txt) E (hD.Bk AJ) AB (J.Bk AJ az) AD (w:=aw) (F:=all)) ?_
 rintro aX aA ⟨⟨ao,rfl,aP⟩,aG,aQ,W,aj⟩
 replace ⟨hD,J,C⟩:=(so [ae,b] aj).g3 hD J C
 refine .cl (IZ ao (Nj ‹_›).2 (w:=aA) (F:=all)) ?_
 rintro aY aZ ⟨⟨ba,⟨bc,rfl,⟨aH,aI,rfl,af⟩⟩,aR⟩,ak⟩
 have al:=al2 J.lt W.lt
 have aB:Gb w.heap.size aA.heap.size:=C.size
 replace ⟨hD,W,C⟩:=(se [ae,b] ak).g3 hD W C
 have af:=af.fr al aB
 exact .r 5<|.d<|.s<|.g<|.r 2<|.d<|.rt func93 results93 (.slice aH ((E8 ao).length) aI) ⟨⟨(E8 ao:List Tag),(af.vl AF (fun _ _ h=>h.1)),(by exact (Nj ‹_›).1)⟩,aG,by omega,W,C⟩
theorem Ia (w_:Wld){b:Nat}{ad:Option Addr}{cd p:Nat}{D:List UInt8}(hr:Box w b 95 [.slice ad D.length cd,.int .i64 (p:Int)]) (hD:RepS w (nin all [b]) ad D.length cd D) (hp:p+60≤1000000000) (h1:RepS w (nin F [b]) a1 n1 c1 w_.store.idx.names) (h2:RepS w (nin F [b]) a2 n2 c2 w_.store.idx.AY) (h3:RepS w (nin F [b]) a3 n3 c3 w_.store.parts) (h4:RepS w (nin F [b]) a4 n4 c4 w_.store.mem) (h5:RepS w (nin F [b]) a5 n5 c5 w_.disk.files) (h6:RepS w (nin F [b]) a6 n6 c6 w_.disk.list) (h7:RepS w (nin F [b]) a7 n7 c7 w_.disk.names) (p0:w_.disk.list.length≤1000):Calls Tryz.prog 52 [.pointer (some ⟨b,0,none⟩),.agg #[.slice a1 n1 c1,.slice a2 n2 c2,.slice a3 n3 c3,.slice a4 n4 c4,.slice a5 n5 c5,.slice a6 n6 c6,.slice a7 n7 c7,.int .i64 w_.disk.next]].toArray w (BB fun rv w'=>(∃ (y:Evt),VS (ge w.heap.size) w' (y:Evt) rv∧(EvD y))∧∃ p':Nat,p'≤p+60∧Box w' b 95 [.slice ad D.length cd,.int .i64 (p':Int)]∧Chg (one b) w w'):=by
 refine goT func52 ?_
 obtain rfl:=h1.len
 replace h1:=h1.Lk (s:=w.heap.size)
 obtain rfl:=h2.len
 replace h2:=h2.Lk (s:=w.heap.size)
 obtain rfl:=h3.len
 replace h3:=h3.Lk (s:=w.heap.size)
 obtain rfl:=h4.len
 replace h4:=h4.Lk (s:=w.heap.size)
 obtain rfl:=h5.len
 replace h5:=h5.Lk (s:=w.heap.size)
 obtain rfl:=h6.len
 replace h6:=h6.Lk (s:=w.heap.size)
 obtain rfl:=h7.len
 replace h7:=h7.Lk (s:=w.heap.size)
 refine .s<|.g<|.np 38 [.slice a1 w_.store.idx.names.length c1,.slice a2 w_.store.idx.AY.length c2,.slice a3 w_.store.parts.length c3,.slice a4 w_.store.mem.length c4,.slice a5 w_.disk.files.length c5,.slice a6 w_.disk.list.length c6,.slice a7 w_.disk.names.length c7,vI w_.disk.next] fun W cX aL aM E cp=>?_
 have dP:=AX aL hr.lt
 replace ⟨hD,hr⟩:=(sn [b] aM aL).g2 hD hr
 have C:Chg (one b) w cX:=Chg.Cb (Chg.refl (one b) w) aM
 refine .np 58 [vI 0,vI 0,vI 0,AH,vI 0,vI 0] fun aa cY al bA J cq=>?_
 have dQ:=AX al hr.lt
 have dR:=AX al E.lt
 have dS:=C.cn al
 replace ⟨hD,hr,E,C⟩:=(sn [W,b] bA al).g4 hD hr E C
 refine .d<|.s<|.s<|.g<|.r 1<|.cl (BK 10 hr (hD.Bk AK) AB (w:=cY) (F:=all)) ?_
 rintro eE aH ⟨⟨bv,rfl,dT⟩,eF,dU,ab,bB⟩
 replace ⟨hD,E,J,C⟩:=(so [aa,W,b] bB).g4 hD E J C
 refine .d<|.b 0<|.s<|.s<|.g<|.eq bv 0 (fun cr=>?_) (fun cr=>?_)
 ·refine .r 1<|.d<|.ct<|.sk<|.ct<|.s<|.g<|.ns 5 3 [vI 2,vI 2,vI 2,vI 0,vI 1] fun aI cu aN bC cw cx=>?_
  have dV:=AX aN ab.lt
  replace ⟨hD,ab,E,J,C⟩:=(sn [aa,W,b] bC aN).g5 hD ab E J C
  have aO:Own (α:=Int) cu aI 3 (nin (ge w.heap.size) [aI,aa,W,b]) 5 5 [2,2,2,0,1]:=Own.lit cw rfl AE ⟨rfl,rfl,rfl,rfl,rfl,rfl⟩
  refine .r 1<|.cl (BK 5 ab (hD.Bk AL) AB (w:=cu) (F:=all)) ?_
  rintro eG cZ ⟨⟨aJ,rfl,dW⟩,c8,dX,aP,bD⟩
  replace ⟨hD,E,J,aO,C⟩:=(so [aI,aa,W,b] bD).g5 hD E J aO C
  have cy:aJ.toNat< 5:=AB
  refine RG.idx (b:=aI) (o:=0) (aJ.toNat) (len:=5) (i:=aJ) (sz:=1) AA AB cy rfl ?_
  obtain ⟨bw,aQ⟩:∃ y,([2,2,2,0,1]:List Int)[aJ.toNat]? = some y:=⟨_,AU AB⟩
  have bz:=AV aQ
  simp only [List.mem_cons,List.not_mem_nil,or_false] at bz
  obtain ⟨_,rfl,aR⟩:=aO.elem (aJ.toNat) bw aQ
  replace aR:Has cZ ⟨aI,0+(aJ.toNat) * Rep.sz Int,none⟩ [vI bw]:=by rw [Nat.zero_add]; exact aR
  refine .lh 0 aR<|.r 1<|.sc [vI 2,vI 0,vI bw,AH,vI 0,vI 0] J fun eH bE cz cA=>?_
  replace ⟨hD,aP,E,C⟩:=(so [aI,aa,W,b] bE).g4 hD aP E C
  exact .d<|.rb func52 results52 cz ⟨⟨((⟨2,0,bw,([]:List Tag),(⟨0,0⟩:Row)⟩:Evt):Evt),⟨_,rfl,⟨_,_,_,rfl,(RepS.Aj _ _ none 0 AE)⟩⟩,(by exact ⟨NmD.nil,by simp [Ek]⟩)⟩,c8,by omega,aP,C⟩
 refine .r 1<|.d<|.cf<|.g<|.eq bv 1 (fun cB=>?_) (fun cB=>?_)
 ·refine .r 1<|.d<|.ct<|.s<|.g<|.ns 5 3 [vI 2,vI 2,vI 2,vI 0,vI 1] fun aK cC aS bF cD cE=>?_
  have dZ:=AX aS ab.lt
  replace ⟨hD,ab,E,J,C⟩:=(sn [aa,W,b] bF aS).g5 hD ab E J C
  have am:Own (α:=Int) cC aK 3 (nin (ge w.heap.size) [aK,aa,W,b]) 5 5 [2,2,2,0,1]:=Own.lit cD rfl AE ⟨rfl,rfl,rfl,rfl,rfl,rfl⟩
  refine .r 1<|.cl (BK 5 ab (hD.Bk AL) AB (w:=cC) (F:=all)) ?_
  rintro d0 cF ⟨⟨ah,rfl,c9⟩,cG,da,ao,aT⟩
  replace ⟨hD,E,J,am,C⟩:=(so [aK,aa,W,b] aT).g5 hD E J am C
  have bM:ah.toNat< 5:=AB
  refine RG.idx (b:=aK) (o:=0) (ah.toNat) (len:=5) (i:=ah) (sz:=1) AA AB bM rfl ?_
  obtain ⟨aC,aq⟩:∃ y,([2,2,2,0,1]:List Int)[ah.toNat]? = some y:=⟨_,AU AB⟩
  have aU:=AV aq
  simp only [List.mem_cons,List.not_mem_nil,or_false] at aU
  obtain ⟨_,rfl,ar⟩:=am.elem (ah.toNat) aC aq
  replace ar:Has cF ⟨aK,0+(ah.toNat) * Rep.sz Int,none⟩ [vI aC]:=by rw [Nat.zero_add]; exact ar
  refine .lh 0 ar<|.r 1<|.sc [vI 2,vI 0,vI aC,AH,vI 0,vI 0] J fun d3 aV bN bO=>?_
  replace ⟨hD,ao,E,C⟩:=(so [aK,aa,W,b] aV).g4 hD ao E C
  exact .d<|.rb func52 results52 bN ⟨⟨((⟨2,0,aC,([]:List Tag),(⟨0,0⟩:Row)⟩:Evt):Evt),⟨_,rfl,⟨_,_,_,rfl,(RepS.Aj _ _ none 0 AE)⟩⟩,(by exact ⟨NmD.nil,by simp [Ek]⟩)⟩,cG,by omega,ao,C⟩
 refine .r 1<|.d<|.cf<|.s<|.g<|.eq bv 2 (fun bP=>?_) (fun bP=>?_)
 ·refine .r 1<|.d<|.ct<|.s<|.g<|.r 2<|.lb E<|.r 1<|.bp ((w_.disk.list.length:Int) > 1) (fun bQ=>?_) (fun bQ=>?_)
  ·refine .d<|.ct<|.s<|.g<|.r 3<|.lb E<|.r 1<|.it ((w_.disk.list.length:Int) - 1)<|.cl (BK ((w_.disk.list.length:Int) - 1) ab (hD.Bk AK) AB (w:=aH) (F:=all)) ?_
   rintro d4 d5 ⟨⟨bG,rfl,de⟩,d6,df,ak,aW⟩
   replace ⟨hD,E,J,C⟩:=(so [aa,W,b] aW).g4 hD E J C
   refine .ns 6 3 [vI 4,vI 4,vI 0,vI 1,vI 2,vI 3] fun ai bH au aX bR bS=>?_
   have dg:=AX au ak.lt
   replace ⟨hD,ak,E,J,C⟩:=(sn [aa,W,b] aX au).g5 hD ak E J C
   have av:Own (α:=Int) bH ai 3 (nin (ge w.heap.size) [ai,aa,W,b]) 6 6 [4,4,0,1,2,3]:=Own.lit bR rfl AE ⟨rfl,rfl,rfl,rfl,rfl,rfl,rfl⟩
   refine .r 1<|.cl (BK 6 ak (hD.Bk AL) AB (w:=bH) (F:=all)) ?_
   rintro d7 cH ⟨⟨aj,rfl,dh⟩,cI,dj,aw,aY⟩
   replace ⟨hD,E,J,av,C⟩:=(so [ai,aa,W,b] aY).g5 hD E J av C
   have bT:aj.toNat< 6:=AB
   refine RG.idx (b:=ai) (o:=0) (aj.toNat) (len:=6) (i:=aj) (sz:=1) AA AB bT rfl ?_
   obtain ⟨aD,ax⟩:∃ y,([4,4,0,1,2,3]:List Int)[aj.toNat]? = some y:=⟨_,AU AB⟩
   have aZ:=AV ax
   simp only [List.mem_cons,List.not_mem_nil,or_false] at aZ
   obtain ⟨_,rfl,ay⟩:=av.elem (aj.toNat) aD ax
   replace ay:Has cH ⟨ai,0+(aj.toNat) * Rep.sz Int,none⟩ [vI aD]:=by rw [Nat.zero_add]; exact ay
   refine .lh 0 ay<|.r 1<|.sc [vI 3,vI bG,vI aD,AH,vI 0,vI 0] J fun d8 ba bU bV=>?_
   replace ⟨hD,aw,E,C⟩:=(so [ai,aa,W,b] ba).g4 hD aw E C
   exact .d<|.rb func52 results52 bU ⟨⟨((⟨3,bG,aD,([]:List Tag),(⟨0,0⟩:Row)⟩:Evt):Evt),⟨_,rfl,⟨_,_,_,rfl,(RepS.Aj _ _ none 0 AE)⟩⟩,(by exact ⟨NmD.nil,by simp [Ek]⟩)⟩,cI,by omega,aw,C⟩
  refine .d<|.cf<|.sk<|.ib 0<|.s<|.g<|.r 1<|.cl (EE ab (hD.Bk AK) AB (w:=aH) (F:=all)) ?_
  rintro d9 cJ ⟨⟨bI,⟨cK,cL,rfl,ac⟩,dp⟩,ec,dq,bW,bc⟩
  have bd:=al3 J.lt E.lt ab.lt
  have bX:Gb w.heap.size aH.heap.size:=C.size
  replace ⟨hD,E,J,C⟩:=(so [aa,W,b] bc).g4 hD E J C
  have ac:=ac.fr bd bX
  refine .r 1<|.cl (Eu bW (hD.Bk AK) AB (w:=cJ) (F:=all)) ?_
  rintro ed ee ⟨⟨aE,⟨_,rfl,rfl⟩,dt⟩,cM,du,az,bg⟩
  replace ⟨hD,E,J,ac,C⟩:=(so [aa,W,b] bg).g5 hD E J ac C
  refine .r 1<|.sc [vI 1,vI 0,vI 0,.slice cK bI.length cL,vI aE.t,vI aE.v] J fun ef bh bY bZ=>?_
  replace ⟨hD,az,E,ac,C⟩:=(so [aa,W,b] bh).g5 hD az E ac C
  exact .d<|.rb func52 results52 bY ⟨⟨((⟨1,0,0,bI,(⟨aE.t,aE.v⟩:Row)⟩:Evt):Evt),⟨_,rfl,⟨_,_,_,rfl,ac.w1⟩⟩,(by exact ⟨by assumption,by assumption⟩)⟩,cM,by omega,az,C⟩
 refine .r 1<|.d<|.cf<|.s<|.g<|.eq bv 3 (fun b0=>?_) (fun b0=>?_)
 ·refine .r 1<|.d<|.ct<|.s<|.g<|.r 1<|.cl (BK 4 ab (hD.Bk AK) AB (w:=aH) (F:=all)) ?_
  rintro eg bJ ⟨⟨cN,rfl,dv⟩,cO,dw,ag,bi⟩
  replace ⟨hD,E,J,C⟩:=(so [aa,W,b] bi).g4 hD E J C
  refine .eq cN 0 (fun b6=>?_) (fun b6=>?_)
  ·refine .d<|.ct<|.s<|.g<|.r 1<|.sc [vI 4,vI 0,vI 0,AH,vI 0,vI 0] J fun eh bj b7 b8=>?_
   replace ⟨hD,ag,E,C⟩:=(so [aa,W,b] bj).g4 hD ag E C
   exact .d<|.rb func52 results52 b7 ⟨⟨((⟨4,0,0,([]:List Tag),(⟨0,0⟩:Row)⟩:Evt):Evt),⟨_,rfl,⟨_,_,_,rfl,(RepS.Aj _ _ none 0 AE)⟩⟩,(by exact ⟨NmD.nil,by simp [Ek]⟩)⟩,cO,by omega,ag,C⟩
  refine .d<|.cf<|.sk<|.ib 0<|.s<|.g<|.r 1<|.cl (EE ag (hD.Bk AK) AB (w:=bJ) (F:=all)) ?_
  rintro ej cP ⟨⟨bK,⟨cQ,cR,rfl,ae⟩,dx⟩,ek,dy,b9,bk⟩
  have bm:=al3 J.lt E.lt ag.lt
  have ce:Gb w.heap.size bJ.heap.size:=C.size
  replace ⟨hD,E,J,C⟩:=(so [aa,W,b] bk).g4 hD E J C
  have ae:=ae.fr bm ce
  refine .r 1<|.cl (Eu b9 (hD.Bk AK) AB (w:=cP) (F:=all)) ?_
  rintro en et ⟨⟨aF,⟨_,rfl,rfl⟩,dA⟩,cS,dB,aA,bn⟩
  replace ⟨hD,E,J,ae,C⟩:=(so [aa,W,b] bn).g5 hD E J ae C
  refine .r 1<|.sc [vI 1,vI 0,vI 0,.slice cQ bK.length cR,vI aF.t,vI aF.v] J fun ey bo cg ci=>?_
  replace ⟨hD,aA,E,ae,C⟩:=(so [aa,W,b] bo).g5 hD aA E ae C
  exact .d<|.rb func52 results52 cg ⟨⟨((⟨1,0,0,bK,(⟨aF.t,aF.v⟩:Row)⟩:Evt):Evt),⟨_,rfl,⟨_,_,_,rfl,ae.w1⟩⟩,(by exact ⟨by assumption,by assumption⟩)⟩,cS,by omega,aA,C⟩
 refine .r 1<|.d<|.cf<|.sk<|.ib 0<|.s<|.g<|.r 1<|.cl (EE ab (hD.Bk AK) AB (w:=aH) (F:=all)) ?_
 rintro ez cT ⟨⟨bL,⟨cU,cV,rfl,af⟩,dC⟩,eA,dD,cj,bq⟩
 have br:=al3 J.lt E.lt ab.lt
 have ck:Gb w.heap.size aH.heap.size:=C.size
 replace ⟨hD,J,C⟩:=(so [aa,W,b] bq).g3 hD J C
 have af:=af.fr br ck
 refine .r 1<|.cl (Eu cj (hD.Bk AK) AB (w:=cT) (F:=all)) ?_
 rintro eB eC ⟨⟨aG,⟨_,rfl,rfl⟩,dF⟩,cW,dG,aB,bt⟩
 replace ⟨hD,J,af,C⟩:=(so [aa,W,b] bt).g4 hD J af C
 refine .r 1<|.sc [vI 1,vI 0,vI 0,.slice cU bL.length cV,vI aG.t,vI aG.v] J fun eD bu cm co=>?_
 replace ⟨hD,aB,af,C⟩:=(so [aa,W,b] bu).g4 hD aB af C
 exact .d<|.rb func52 results52 cm ⟨⟨((⟨1,0,0,bL,(⟨aG.t,aG.v⟩:Row)⟩:Evt):Evt),⟨_,rfl,⟨_,_,_,rfl,af.w1⟩⟩,(by exact ⟨by assumption,by assumption⟩)⟩,cW,by omega,aB,C⟩
end Go.Proofs.YtggnnidleedpaaaGreat
namespace Go.Proofs.YtggnnidleedpaaaGreat
def JR:List Tag:=(List.range' 97 4).flatMap (fun k=>(List.range' 112 11).map (IH k))
theorem OK (names:List (List Tag)) (k:Nat):∀ f v,FK names k f v=((List.range' v f).map (IH k)).flatMap (FV names):=by
 intro f
 induction f with
 | zero=>intro v; rfl
 | succ f ih=>intro v; rw [FK,ih,List.range'_succ]; rfl
theorem OL (names:List (List Tag)):∀ f k,FL names f k=((List.range' k f).flatMap (fun k=>(List.range' 112 11).map (IH k))).flatMap (FV names):=by
 intro f
 induction f with
 | zero=>intro k; rfl
 | succ f ih=>intro k; rw [FL,ih,OK,show List.range' k (f+1)=k::List.range' (k+1) f from rfl,List.flatMap_cons,List.flatMap_append]
theorem Gn (names:List (List Tag)):DO names=JR.flatMap (FV names):=OL names 4 97
theorem K9:JR.Pairwise (fun a b=>D7 a b=true):=by decide +kernel
theorem OM {t:Tag}(h:Bq t=true):t∈JR:=by
 simp only [Bq,AW] at h
 obtain ⟨h1,h2⟩:=h
 obtain ⟨x,hx⟩:∃ x,t.key=[x]:=by
  have:=Dh h1
  match t.key,this with
  | [x],_=>exact ⟨x,rfl⟩
 obtain ⟨y,hy⟩:∃ y,t.val=[y]:=by
  have:=Dh h2
  match t.val,this with
  | [y],_=>exact ⟨y,rfl⟩
 rw [hx] at h1
 rw [hy] at h2
 have g1:=CF h1
 have g2:=CF h2
 unfold JR
 refine List.mem_flatMap.2 ⟨x.toNat,?_,List.mem_map.2 ⟨y.toNat,?_,?_⟩⟩
 ·rw [List.mem_range'_1]; omega
 ·rw [List.mem_range'_1]; omega
 ·cases t
  simp only at hx hy
  subst hx hy
  simp [IH]
theorem ON {names:List (List Tag)}{p:Pst}(h:p∈DO names):p.ids=ids names p.tag∧0< p.ids.length∧p.tag∈JR:=by
 rw [Gn] at h
 obtain ⟨t,ht,hp⟩:=List.mem_flatMap.1 h
 unfold FV at hp
 split at hp
 ·simp at hp
  subst hp
  exact ⟨rfl,by assumption,ht⟩
 ·cases hp
theorem PT {names:List (List Tag)}{t:Tag}(h:t∈JR) (h2:0< (ids names t).length):⟨t,ids names t⟩∈DO names:=by
 rw [Gn]
 refine List.mem_flatMap.2 ⟨t,h,?_⟩
 unfold FV
 rw [if_pos h2]
 simp
theorem LA (names:List (List Tag)):(DO names).Pairwise (fun a b=>D7 a.tag b.tag=true):=by
 rw [Gn,List.pairwise_flatMap]
 refine ⟨fun t _=>?_,K9.imp ?_⟩
 ·unfold FV
  split <;> simp
 ·intro a b hab x hx y hy
  have h1:x.tag=a:=by
   unfold FV at hx
   split at hx
   ·simp at hx; rw [hx]
   ·cases hx
  have h2:y.tag=b:=by
   unfold FV at hy
   split at hy
   ·simp at hy; rw [hy]
   ·cases hy
  rw [h1,h2]
  exact hab
theorem Ho:∀ (s:Str),By s s=false:=by
 intro s
 induction s with
 | nil=>rfl
 | cons x xs ih =>
   have ih':Op.bytesLess xs xs=false:=ih
   show (decide (x< x) || x==x&&Op.bytesLess xs xs)=false
   simp [ih']
theorem KM {a b:Tag}(ha:Bq a=true) (hb:Bq b=true) (h:By a.key b.key=true):∃ x y,a.key=[x]∧b.key=[y]∧x.toNat< y.toNat:=by
 simp only [Bq,AW] at ha hb
 have h1:=Dh ha.1
 have h2:=Dh hb.1
 match ha':a.key,h1,hb':b.key,h2 with
 | [x], _, [y], _ =>
   rw [ha',hb',JE] at h
   exact ⟨x,y,rfl,rfl,by simpa using h⟩
theorem Ms:∀ (n:List Tag) (o:Option Tag),DV o n=true→(∀ q,o=some q→Bq q=true)→(∀ q,o=some q→∀ t∈n,By q.key t.key=true)∧n.Nodup:=by
 intro n
 induction n with
 | nil=>intro o _ _; exact ⟨fun _ _ t ht=>(by cases ht),by simp⟩
 | cons t ts ih =>
   intro o h ho
   simp only [DV,AW] at h
   obtain ⟨⟨h1,h2⟩,h3⟩:=h
   obtain ⟨g1,g2⟩:=ih (some t) h3 (fun q hq=>by cases hq; exact h1)
   refine ⟨fun q hq u hu=>?_,List.nodup_cons.2 ⟨fun hm=>?_,g2⟩⟩
   ·subst hq
    have h4:By q.key t.key=true:=h2
    rcases List.mem_cons.1 hu with rfl | hu
    ·exact h4
    ·have h5:=g1 t rfl u hu
     obtain ⟨x,y,e1,e2,l1⟩:=KM (ho q rfl) h1 h4
     obtain ⟨y',z,e3,e4,l2⟩:=KM h1 (EZ ts (some t) h3 u hu) h5
     rw [e2] at e3
     cases e3
     rw [e1,e4,JE]
     simp; omega
   ·have h5:=g1 t rfl t hm
    rw [Ho] at h5
    cases h5
theorem HD {n:List Tag}(h:BC n=true):n.Nodup∧∀ t∈n,t∈JR:=by
 simp only [BC,AW] at h
 exact ⟨(Ms n none h.1 AD).2,fun t ht=>OM (EZ n none h.1 t ht)⟩
end Go.Proofs.YtggnnidleedpaaaGreat
namespace Go.Proofs.YtggnnidleedpaaaGreat
structure IxI (x:Idx):Prop where
 eq:x=idxOf x.names
 nm:NmI x.names
theorem IxI.AY {x:Idx}(h:IxI x):x.AY=DO x.names:=by have:=h.eq; rw [this]; rfl
theorem IxI.sz {x:Idx}(h:IxI x):PB x:=⟨by have:=h.nm.len; omega,h.nm.sz⟩
theorem SD.ix {s:Sto}(h:SD s):IxI s.idx:=⟨h.idx,h.nm⟩
theorem SD.sz {s:Sto}(h:SD s):KE s:=⟨h.ix.sz,by have:=h.np; omega,fun p hp=>(h.part p hp).sz,by have:=h.nm2; omega⟩
theorem LB {α:Type}{f:α→Bool}{l:List α}{i:Nat}{x:α}{b:Bool}(h:(l.drop i).all f=b) (hd:l.drop i=x::l.drop (i+1)) (hx:f x=true):(l.drop (i+1)).all f=b:=by
 rw [hd,List.all_cons,hx,Bool.true_and] at h
 exact h
theorem KN {α:Type}{f:α→Bool}{l:List α}{i:Nat}{x:α}{b:Bool}(h:(l.drop i).all f=b) (hd:l.drop i=x::l.drop (i+1)) (hx:f x=false):b=false:=by
 rw [hd,List.all_cons,hx,Bool.false_and] at h
 exact h.symm
theorem Mt {α:Type}{f:α→Bool}{l:List α}{i:Nat}{b:Bool}(h:(l.drop i).all f=b) (hi:l.length≤i):b=true:=by
 rw [Ab hi] at h
 exact h.symm
def EI (n:Nat) (m:Smp):Bool:=inR m.id 1 n&&Bi m.row
def EJ (s:Sto) (i:Nat):Bool:=decide ((rowsOf s ((i:Int)+1)).length≤24)
def Al (s:Sto):Bool :=
 decide (s.parts.length≤6)&&decide (s.mem.length≤20)&&s.parts.all (fun p=>Bw p s.idx.names.length)&&s.mem.all (EI s.idx.names.length)&&(List.range s.idx.names.length).all (EJ s)
theorem KO {s:Sto}(h:(s.parts.length:Int) > 6∨(s.mem.length:Int) > 20):Al s=false:=by
 unfold Al
 rcases h with h | h
 ·rw [decide_eq_false AB]; simp
 ·rw [decide_eq_false (p:=s.mem.length≤20) AB]; simp
theorem Hp {s:Sto}(h:s.parts.all (fun p=>Bw p s.idx.names.length)=false):Al s=false:=by unfold Al; rw [h]; simp
theorem KP {s:Sto}(h:s.mem.all (EI s.idx.names.length)=false):Al s=false:=by unfold Al; rw [h]; simp
theorem OO {s:Sto}(h:(List.range s.idx.names.length).all (EJ s)=false):Al s=false:=by unfold Al; rw [h]; simp
theorem OP {s:Sto}(h1:¬ (s.parts.length:Int) > 6) (h2:¬ (s.mem.length:Int) > 20) (h3:s.parts.all (fun p=>Bw p s.idx.names.length)=true) (h4:s.mem.all (EI s.idx.names.length)=true) (h5:(List.range s.idx.names.length).all (EJ s)=true):Al s=true:=by
 unfold Al
 rw [h3,h4,h5,decide_eq_true AB,decide_eq_true AB]
 rfl
theorem Lr {n i:Nat}(h:i< n):(List.range n).drop i=i::(List.range n).drop (i+1):=by
 rw [List.drop_eq_getElem_cons (by simpa using h)]
 simp
def Bd (s:Sto) (n:List Tag) (r:Row):Sto × Bool:=if Al s=true∧BC n=true then CI (Am s) n r else (⟨⟨[],[]⟩,[],[]⟩,false)
theorem Ix {s:Sto}{n:List Tag}{r:Row}(h:Al s=false∨BC n=false):Bd s n r=(⟨⟨[],[]⟩,[],[]⟩,false):=by
 unfold Bd
 rw [if_neg]
 rintro ⟨h1,h2⟩
 rcases h with h | h
 ·rw [h] at h1; cases h1
 ·rw [h] at h2; cases h2
theorem Fw {s:Sto}{n:List Tag}{r:Row}(h:Al s=true) (h2:BC n=true):Bd s n r=CI (Am s) n r:=by unfold Bd; rw [if_pos ⟨h,h2⟩]
theorem SD.copy {s:Sto}(h:SD s):Am s=s:=by
 have:=h.idx
 unfold Am
 rw [← this]
theorem Q6 {s:Sto}{n k:Nat}{b:Bool}(h:((List.range n).drop (k - 1)).all (EJ s)=b) (h1:1≤k) (h2:k≤n) (h3:((rowsOf s (k:Int)).length:Int)≤24):((List.range n).drop (k+1 - 1)).all (EJ s)=b:=by
 have hd:=Lr (n:=n) (i:=k - 1) AB
 have:=LB h hd (by unfold EJ; rw [show ((k - 1:Nat):Int)+1=(k:Int) by omega]; simp; omega)
 rw [show k+1 - 1=k - 1+1 by omega]
 exact this
theorem Th {s:Sto}{n k:Nat}{b:Bool}(h:((List.range n).drop (k - 1)).all (EJ s)=b) (h1:1≤k) (h2:k≤n) (h3:((rowsOf s (k:Int)).length:Int) > 24):b=false:=by
 have hd:=Lr (n:=n) (i:=k - 1) AB
 exact KN h hd (by unfold EJ; rw [show ((k - 1:Nat):Int)+1=(k:Int) by omega]; simp; omega)
theorem Sj {s:Sto}{n k:Nat}{b:Bool}(h:((List.range n).drop (k - 1)).all (EJ s)=b) (h1:n+1≤k):b=true:=Mt h (by simp; omega)
end Go.Proofs.YtggnnidleedpaaaGreat
