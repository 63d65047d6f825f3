/- walks; hints pruned; squeezed -/
import Derived.Test.YtganlmloonielaaGreatTazW8
set_option linter.unusedVariables false
set_option linter.unusedSimpArgs false
namespace Go.Proofs.YtganlmloonielaaGreat
set_option maxRecDepth 100000
set_option maxHeartbeats 4000000
theorem Lx (text_:Str) (by_:UInt8) {w:World} {F:Nat→Prop}  (p0:text_.length≤1000):Calls Tryz.prog 214 [.string (bs text_),.int .u8 (by_.toNat:Int)].toArray w (As fun rv w'=>VL (ge w.heap.size) w' (Ht text_ by_:List Txt) rv∧Ext w w'):=by
 refine goT Tryz.func214<|.s<|.g<|.r 1<|.d<|.s<|.g<|.ns 1 9 [.string (bs [])] fun aa ar ah av aI aJ=>?_
 have aK:=Ad ah (Nat.le_refl _)
 have aL:Cov nil w aa:=Bc ah (Nat.le_refl _)
 have C:=av
 have aM:Own (α:=Txt) ar aa 9 (nin (ge w.heap.size) [aa]) 1 1 [(⟨[]⟩:Txt)]:=Own.lit aI rfl (by decide) ⟨rfl,rfl⟩
 refine .r 1<|.d<|.s<|.s<|.g<|.r 1<|.d<|.b 0<|T.loop (X:=(List Txt) × Nat × Nat × Nat × Nat) ((([(⟨[]⟩:Txt)]:List Txt):List Txt),aa,1,1,0) (fun (out,r_out,n_out,c_out,i)=>[(0,vT text_),(1,.int .u8 (by_.toNat:Int)),(5,vS r_out n_out c_out),(6,vI (i:Int))]) (fun (out,r_out,n_out,c_out,i) aF=>Chg (ins [aa]) ar aF∧Own aF r_out 9 (nin (ge w.heap.size) [r_out]) n_out c_out out∧OrB r_out aa ar.heap.size∧(i≤text_.length)∧(0< out.length)∧(out.length≤i+1)∧(∀ t∈out,t.s.length≤i)∧(HQ by_ out (text_.drop i)=Ht text_ by_)) (fun (out,r_out,n_out,c_out,i)=>text_.length - i) AA ⟨AA,AA,AA,AA,trivial⟩ ⟨Chg.refl _ _,aM,BJ,(by simp),(by simp),(by simp),(by simp),(by rfl)⟩ ?_
 rintro ⟨out,r_out,n_out,c_out,i⟩ bE aF ⟨E,J,ab,bm,bn,bo,bq,br⟩ ac
 have aN:=Bv ab aK C.size
 have bt:=Ar ab aL C.size
 have aO:Cov (ins [aa]) ar aa:=⟨.inl AD⟩
 have bu:=Ar ab aO (Nat.le_refl _)
 replace C:=(si E).g1 C
 have bv:=J.len; have bw:=J.max
 refine .s<|.s<|.g<|.r 2<|RG.eqv (v:=vI (text_.length:Int)) AA (G7 text_)<|.bp ((i:Int)< (text_.length:Int)) (fun aP=>?_) (fun aP=>?_)
 ·refine .d<|.ct<|.sk<|.s<|.b 1<|.s<|.g<|.r 2 ?_
  obtain ⟨O,ai⟩:∃ y,text_[i]? = some y:=⟨_,AP AB⟩
  have bz:=UInt8.toNat_lt O; have bA:=AX ai
  refine RG.Lo (t:=9) (s:=text_) (k:=.i64) (i:=(i:Int)) i AA AA AB ai<|.r 1<|.eq (O.toNat:Int) (by_.toNat:Int) (fun aQ=>?_) (fun aQ=>?_)
  ·refine .d<|.ct<|.g<|.r 1<|.ns 1 9 [.string (bs [])] fun aR bF aj aw aS aT=>?_
   have ax:=AS aj J.lt
   have aU:=Ad aj C.size
   replace ⟨J,C,E⟩:=(se [r_out] aw).g3 J C E
   have ak:nin (ge w.heap.size) [r_out] aR∧aR≠r_out:=BG aU (all_cons ax all_nil) ax
   refine RG.Ap (T:=162) (ty:=162) (y:=(⟨[]⟩:Txt)) J aS AA AA rfl ak AB fun bg bh bG ae al ay=>?_
   have aV:=Bo al ab E.size
   replace ⟨C,E⟩:=(s1 ay).g2 C E
   replace ae:=ae.rn r_out
   have bB:=ae.len; have bC:=ae.max
   exact .r 1<|.d<|.ib 1<|.g<|.r 1<|.it ((i:Int)+1)<|.r 1<|.d<|ac ((out++[(⟨[]⟩:Txt)]),bg,n_out+1,bh,i+1) _ _ ⟨AA,AA,AA,AA,trivial⟩ ⟨E,ae,aV,AB,(by simp <;> omega),(by (simp <;> omega)),(by exact Oe ‹_›),(by exact Qh ‹_› ‹_› ‹_›)⟩ (by (simp only []; omega))
  refine .d<|.cf<|.gd nil 16 fun bi az=>?_
  replace ⟨J,C,E⟩:=(se [r_out] az).g3 J C E
  refine .r [0,1,2]<|GA.int (i:=3) ((n_out:Int) - 1) AA AB<|.r [4,5,6]<|GA.int (i:=7) ((n_out:Int) - 1) AA AB ?_
  have aW:n_out - 1< n_out:=AB
  refine GA.idx (i:=8) (b:=r_out) (o:=0) (n_out - 1) (len:=n_out) (z:=(n_out:Int) - 1) (sz:=1) AA AB aW rfl ?_
  obtain ⟨W,af⟩:∃ y,out[n_out - 1]? = some y:=⟨_,AP AB⟩
  have bD:=AX af; have bd:=AQ af
  obtain ⟨_,rfl,am⟩:=J.elem (n_out - 1) W af
  replace am:Has bi ⟨r_out,0+(n_out - 1) * Rep.sz Txt,none⟩ [vT W.s]:=by rw [Nat.zero_add]; exact am
  refine .lh 9 0 am id<|.r [10,11]<|GA.Lo (i:=12) (t:=9) (s:=text_) (k:=.i64) (z:=(i:Int)) AA i AA AA AB ai<|.go 13<|.ns 1 5 [.int .u8 (O.toNat:Int)] fun bH aA=>?_
  replace ⟨J,C,E⟩:=(se [r_out] aA).g3 J C E
  intro au bj aB aC aX aY
  replace ⟨J,C,E⟩:=(sn [r_out] aC aB).g3 J C E
  have aZ:Own (α:=UInt8) bj au 5 (nin (ge w.heap.size) [au,r_out]) 1 1 [O]:=Own.lit aX rfl (by decide) ⟨rfl,rfl⟩
  refine GA.b2s (i:=14) (s:=22) (d:=9) (y:=O) AA aZ AA AA<|GA.cat (i:=15) (t:=9) (s:=W.s) (u:=[O]) AA AA (by have q1:∀ t∈out,t.s.length≤i:=‹_›; have q2:=q1 _ ‹_›; simp only [List.length_cons,List.length_nil]; omega)<|.d fun bk aD=>?_
  replace ⟨J,C,E⟩:=(se [au,r_out] aD).g3 J C E
  have ba:n_out - 1< n_out:=AB
  refine RG.idx (b:=r_out) (o:=0) (n_out - 1) (len:=n_out) (i:=(n_out:Int) - 1) (sz:=1) AA AB ba rfl ?_
  obtain ⟨_,rfl,ao⟩:=J.elem (n_out - 1) W af
  replace ao:Has bk ⟨r_out,0+(n_out - 1) * Rep.sz Txt,none⟩ [vT W.s]:=by rw [Nat.zero_add]; exact ao
  refine RG.Ds (t':=9) (i:=(n_out - 1)) (k:=0) (v:=.string (bs (W.s++[O]))) (cs:=[vT W.s]) (⟨(W.s++[O])⟩:Txt) J af ao AA AA AA rfl fun aE ag aq aG=>?_
  replace ⟨C,E⟩:=(s1 aq).g2 C E
  refine .d<|.ib 1<|.g<|.r 1<|.it ((i:Int)+1)<|.r 1<|.d ?_
  have aH:Mv [au,r_out] [r_out] aE aE:=Mv.less (all_cons AE all_nil)
  replace ag:=(sp aH (Chg.refl nil _)).g1 ag
  exact ac ((out.set (n_out - 1) (⟨(W.s++[O])⟩:Txt)),r_out,n_out,c_out,i+1) _ _ ⟨AA,AA,AA,AA,trivial⟩ ⟨E,ag,ab,AB,(by simp <;> omega),(by (simp <;> omega)),(by exact UR ‹_› ‹_›),(by exact Qi ‹_› ‹_› ‹_› AB ‹_›)⟩ (by (simp only []; omega))
 refine .d<|.cf<|.x 0 rfl<|.s<|.g<|.r 2<|.d ?_
 have bc:=J.sl aN
 exact .rt Tryz.func214 Tryz.results214 (vS r_out n_out c_out) ⟨(bc.vl (by exact UQ ‹_› AB) (fun _ _ h=>h.1)),C⟩
theorem Kr (w_:Str) {w:World} {F:Nat→Prop}  (p0:w_.length≤1000):Calls Tryz.prog 215 [.string (bs w_)].toArray w (As fun rv w'=>(∃ v0,rv=.tuple #[v0,.bool ((Cq w_).2)]∧VS (ge w.heap.size) w' ((Cq w_).1:Cnd) v0)∧Ext w w'):=by
 refine goT Tryz.func215<|.s<|.g<|.np 198 [.string (bs []),.string (bs []),.bool false] fun bL cq az aA E bj=>?_
 have bR:Cov nil w bL:=Bc az (Nat.le_refl _)
 have C:=aA
 refine .r 1<|.d<|.s<|.g<|.r 1<|.np 198 [.string (bs []),.string (bs []),.bool false] fun cr cu ac aB bk bm=>?_
 have bS:=AS ac E.lt
 have bT:=C.cn ac
 replace ⟨E,C⟩:=(se [] aB).g2 E C
 refine .sc [.string (bs []),.string (bs []),.bool false] bk fun cv aC J bn=>?_
 replace ⟨E,C⟩:=(s1 aC).g2 E C
 refine .d<|.s<|.s<|.g<|.r 1<|RG.eqv (v:=vI (w_.length:Int)) AA (G7 w_)<|.eq (w_.length:Int) 4 (fun bo=>?_) (fun bo=>?_)
 ·refine .r 2 ?_
  obtain ⟨aR,ae⟩:∃ y,w_[1]? = some y:=⟨_,AP AB⟩
  have bU:=UInt8.toNat_lt aR; have bV:=AX ae
  refine RG.Lo (t:=9) (s:=w_) (k:=.i64) (i:=1) 1 AA AA AB ae<|.eq (aR.toNat:Int) 33 (fun bq=>?_) (fun bq=>?_)
  ·refine .r 1<|.d<|.ct<|.s<|.g<|.r 1<|.ss 2 (.bool true) J fun cw aD O br=>?_
   replace ⟨E,C⟩:=(s1 aD).g2 E C
   refine .d<|.gd nil 4 fun cx aE=>?_
   replace ⟨E,O,C⟩:=(se [] aE).g3 E O C
   refine .r [0]<|GA.Lp (i:=1) (t:=9) (lo:=none) (hi:=some (vI 1)) (s:=w_) AA 0 1 AA AA (.inl ⟨rfl,rfl⟩) (.inr ⟨_,_,rfl,by omega⟩) AB AB<|.r [2]<|GA.Lp (i:=3) (t:=9) (lo:=some (vI 2)) (hi:=none) (s:=w_) AA 2 w_.length AA AA (.inr ⟨_,_,rfl,by omega⟩) (.inl ⟨rfl,rfl⟩) AB AB<|.d fun cy aF=>?_
   replace ⟨E,O,C⟩:=(se [] aF).g3 E O C
   refine RG.cat (t:=9) (s:=((w_.take 1).drop 0)) (u:=((w_.take w_.length).drop 2)) AA (by simp; omega)<|.r 1<|.d<|.s<|.s<|.g<|.r 1<|RG.eqv (v:=vI ((((w_.take 1).drop 0)++((w_.take w_.length).drop 2)).length:Int)) AA (G7 (((w_.take 1).drop 0)++((w_.take w_.length).drop 2)))<|.ne ((((w_.take 1).drop 0)++((w_.take w_.length).drop 2)).length:Int) 3 (fun bt=>?_) (fun bt=>?_)
   ·refine .r 5<|.d<|.ct<|.s<|.g<|.ln O<|.sc [.string (bs []),.string (bs []),.bool true] E fun cz aG bu bv=>?_
    replace ⟨O,C⟩:=(s1 aG).g2 O C
    exact .r 1<|.d<|.r2 Tryz.func215 Tryz.results215 (.bx bu) (.t (.bool false)) ⟨⟨_,(CS rfl (congrArg Value.bool (by rw [C5 (Im ‹_› ‹_› ‹_›) (.inl ‹_›)]))),(VS.of (y:=(⟨(⟨[],[]⟩:Tag),true⟩:Cnd)) ⟨_,rfl,rfl⟩ (by rw [C5 (Im ‹_› ‹_› ‹_›) (.inl ‹_›)]))⟩,C⟩
   refine .r 2 ?_
   obtain ⟨bw,aH⟩:∃ y,(((w_.take 1).drop 0)++((w_.take w_.length).drop 2))[1]? = some y:=⟨_,AP AB⟩
   have bW:=UInt8.toNat_lt bw; have bX:=AX aH
   refine RG.Lo (t:=9) (s:=(((w_.take 1).drop 0)++((w_.take w_.length).drop 2))) (k:=.i64) (i:=1) 1 AA AA AB aH<|.ne (bw.toNat:Int) 61 (fun bz=>?_) (fun bz=>?_)
   ·refine .r 1<|.d<|.ct<|.s<|.g<|.ln O<|.sc [.string (bs []),.string (bs []),.bool true] E fun cA aI bA bB=>?_
    replace ⟨O,C⟩:=(s1 aI).g2 O C
    exact .r 1<|.d<|.r2 Tryz.func215 Tryz.results215 (.bx bA) (.t (.bool false)) ⟨⟨_,(CS rfl (congrArg Value.bool (by rw [C5 (Im ‹_› ‹_› ‹_›) (.inr ⟨_,by assumption,by assumption⟩)]))),(VS.of (y:=(⟨(⟨[],[]⟩:Tag),true⟩:Cnd)) ⟨_,rfl,rfl⟩ (by rw [C5 (Im ‹_› ‹_› ‹_›) (.inr ⟨_,by assumption,by assumption⟩)]))⟩,C⟩
   refine .r 1<|.d<|.cf<|.sk<|.s<|.gd nil 4 fun cB aJ=>?_
   replace ⟨E,O,C⟩:=(se [] aJ).g3 E O C
   refine .r [0]<|GA.Lp (i:=1) (t:=9) (lo:=none) (hi:=some (vI 1)) (s:=(((w_.take 1).drop 0)++((w_.take w_.length).drop 2))) AA 0 1 AA AA (.inl ⟨rfl,rfl⟩) (.inr ⟨_,_,rfl,by omega⟩) AB AB<|.r [2]<|GA.Lp (i:=3) (t:=9) (lo:=some (vI 2)) (hi:=none) (s:=(((w_.take 1).drop 0)++((w_.take w_.length).drop 2))) AA 2 ((((w_.take 1).drop 0)++((w_.take w_.length).drop 2)).length) AA AA (.inr ⟨_,_,rfl,by omega⟩) (.inl ⟨rfl,rfl⟩) AB AB<|.d fun cC aK=>?_
   replace ⟨E,O,C⟩:=(se [] aK).g3 E O C
   refine .r 2<|.sb 0 (.agg #[.string (bs (((((w_.take 1).drop 0)++((w_.take w_.length).drop 2)).take 1).drop 0)),.string (bs (((((w_.take 1).drop 0)++((w_.take w_.length).drop 2)).take ((((w_.take 1).drop 0)++((w_.take w_.length).drop 2)).length)).drop 2))]) [.string (bs (((((w_.take 1).drop 0)++((w_.take w_.length).drop 2)).take 1).drop 0)),.string (bs (((((w_.take 1).drop 0)++((w_.take w_.length).drop 2)).take ((((w_.take 1).drop 0)++((w_.take w_.length).drop 2)).length)).drop 2)),.bool true] O fun cD aL ab bC=>?_
   replace ⟨E,C⟩:=(s1 aL).g2 E C
   refine .d<|.s<|.gd nil 4 fun cE aM=>?_
   replace ⟨E,ab,C⟩:=(se [] aM).g3 E ab C
   refine .ln 0 ab id<|.r [1]<|.ln 2 ab id<|GA.Bz (i:=3) AA (fun bM bY=>En (⟨(((((w_.take 1).drop 0)++((w_.take w_.length).drop 2)).take 1).drop 0),(((((w_.take 1).drop 0)++((w_.take w_.length).drop 2)).take ((((w_.take 1).drop 0)++((w_.take w_.length).drop 2)).length)).drop 2)⟩:Tag) (w:=bM) (F:=all))<|.d fun cF aN=>?_
   replace ⟨E,C⟩:=(se [] aN).g2 E C
   refine .sc [.string (bs (((((w_.take 1).drop 0)++((w_.take w_.length).drop 2)).take 1).drop 0)),.string (bs (((((w_.take 1).drop 0)++((w_.take w_.length).drop 2)).take ((((w_.take 1).drop 0)++((w_.take w_.length).drop 2)).length)).drop 2)),.bool true] E fun cG aO bD bE=>?_
   replace C:=(s1 aO).g1 C
   exact .r 1<|.d<|.r2 Tryz.func215 Tryz.results215 (.bx bD) (.t (.bool (Bg (⟨(((((w_.take 1).drop 0)++((w_.take w_.length).drop 2)).take 1).drop 0),(((((w_.take 1).drop 0)++((w_.take w_.length).drop 2)).take ((((w_.take 1).drop 0)++((w_.take w_.length).drop 2)).length)).drop 2)⟩:Tag)))) ⟨⟨_,(CS rfl (congrArg Value.bool (by rw [Et (Im ‹_› ‹_› ‹_›) ‹_› ‹_› ‹_›]))),(VS.of (y:=(⟨(⟨(((((w_.take 1).drop 0)++((w_.take w_.length).drop 2)).take 1).drop 0),(((((w_.take 1).drop 0)++((w_.take w_.length).drop 2)).take ((((w_.take 1).drop 0)++((w_.take w_.length).drop 2)).length)).drop 2)⟩:Tag),true⟩:Cnd)) ⟨_,rfl,rfl⟩ (by rw [Et (Im ‹_› ‹_› ‹_›) ‹_› ‹_› ‹_›]))⟩,C⟩
  refine .r 1<|.d<|.cf<|.sk<|.s<|.s<|.g<|.r 1<|RG.eqv (v:=vI (w_.length:Int)) AA (G7 w_)<|.ne (w_.length:Int) 3 (fun bF=>?_) (fun bF=>?_)
  ·refine .r 5<|.d<|.ct<|.s<|.g<|.ln J<|.sc [.string (bs []),.string (bs []),.bool false] E fun cH aP bG bH=>?_
   replace ⟨J,C⟩:=(s1 aP).g2 J C
   exact .r 1<|.d<|.r2 Tryz.func215 Tryz.results215 (.bx bG) (.t (.bool false)) ⟨⟨_,(CS rfl (congrArg Value.bool (by rw [C5 (Il ‹_› ‹_› ‹_›) (.inl ‹_›)]))),(VS.of (y:=(⟨(⟨[],[]⟩:Tag),false⟩:Cnd)) ⟨_,rfl,rfl⟩ (by rw [C5 (Il ‹_› ‹_› ‹_›) (.inl ‹_›)]))⟩,C⟩
  refine .r 2<|RG.Lo (t:=9) (s:=w_) (k:=.i64) (i:=1) 1 AA AA AB ae<|.ne (aR.toNat:Int) 61 (fun bI=>?_) (fun bI=>?_)
  ·refine .r 1<|.d<|.ct<|.s<|.g<|.ln J<|.sc [.string (bs []),.string (bs []),.bool false] E fun bZ af aS aT=>?_
   replace ⟨J,C⟩:=(s1 af).g2 J C
   exact .r 1<|.d<|.r2 Tryz.func215 Tryz.results215 (.bx aS) (.t (.bool false)) ⟨⟨_,(CS rfl (congrArg Value.bool (by rw [C5 (Il ‹_› ‹_› ‹_›) (.inr ⟨_,by assumption,by assumption⟩)]))),(VS.of (y:=(⟨(⟨[],[]⟩:Tag),false⟩:Cnd)) ⟨_,rfl,rfl⟩ (by rw [C5 (Il ‹_› ‹_› ‹_›) (.inr ⟨_,by assumption,by assumption⟩)]))⟩,C⟩
  refine .r 1<|.d<|.cf<|.sk<|.s<|.gd nil 4 fun b0 ag=>?_
  replace ⟨E,J,C⟩:=(se [] ag).g3 E J C
  refine .r [0]<|GA.Lp (i:=1) (t:=9) (lo:=none) (hi:=some (vI 1)) (s:=w_) AA 0 1 AA AA (.inl ⟨rfl,rfl⟩) (.inr ⟨_,_,rfl,by omega⟩) AB AB<|.r [2]<|GA.Lp (i:=3) (t:=9) (lo:=some (vI 2)) (hi:=none) (s:=w_) AA 2 w_.length AA AA (.inr ⟨_,_,rfl,by omega⟩) (.inl ⟨rfl,rfl⟩) AB AB<|.d fun b6 ah=>?_
  replace ⟨E,J,C⟩:=(se [] ah).g3 E J C
  refine .r 2<|.sb 0 (.agg #[.string (bs ((w_.take 1).drop 0)),.string (bs ((w_.take w_.length).drop 2))]) [.string (bs ((w_.take 1).drop 0)),.string (bs ((w_.take w_.length).drop 2)),.bool false] J fun b7 ai W aU=>?_
  replace ⟨E,C⟩:=(s1 ai).g2 E C
  refine .d<|.s<|.gd nil 4 fun b8 aj=>?_
  replace ⟨E,W,C⟩:=(se [] aj).g3 E W C
  refine .ln 0 W id<|.r [1]<|.ln 2 W id<|GA.Bz (i:=3) AA (fun bJ bN=>En (⟨((w_.take 1).drop 0),((w_.take w_.length).drop 2)⟩:Tag) (w:=bJ) (F:=all))<|.d fun b9 ak=>?_
  replace ⟨E,C⟩:=(se [] ak).g2 E C
  refine .sc [.string (bs ((w_.take 1).drop 0)),.string (bs ((w_.take w_.length).drop 2)),.bool false] E fun cd al aV aW=>?_
  replace C:=(s1 al).g1 C
  exact .r 1<|.d<|.r2 Tryz.func215 Tryz.results215 (.bx aV) (.t (.bool (Bg (⟨((w_.take 1).drop 0),((w_.take w_.length).drop 2)⟩:Tag)))) ⟨⟨_,(CS rfl (congrArg Value.bool (by rw [Et (Il ‹_› ‹_› ‹_›) ‹_› ‹_› ‹_›]))),(VS.of (y:=(⟨(⟨((w_.take 1).drop 0),((w_.take w_.length).drop 2)⟩:Tag),false⟩:Cnd)) ⟨_,rfl,rfl⟩ (by rw [Et (Il ‹_› ‹_› ‹_›) ‹_› ‹_› ‹_›]))⟩,C⟩
 refine .r 5<|.d<|.cf<|.sk<|.s<|.s<|.g<|.r 1<|RG.eqv (v:=vI (w_.length:Int)) AA (G7 w_)<|.ne (w_.length:Int) 3 (fun aX=>?_) (fun aX=>?_)
 ·refine .r 5<|.d<|.ct<|.s<|.g<|.ln J<|.sc [.string (bs []),.string (bs []),.bool false] E fun ce am aY aZ=>?_
  replace ⟨J,C⟩:=(s1 am).g2 J C
  exact .r 1<|.d<|.r2 Tryz.func215 Tryz.results215 (.bx aY) (.t (.bool false)) ⟨⟨_,(CS rfl (congrArg Value.bool (by rw [C5 (Ik ‹_›) (.inl ‹_›)]))),(VS.of (y:=(⟨(⟨[],[]⟩:Tag),false⟩:Cnd)) ⟨_,rfl,rfl⟩ (by rw [C5 (Ik ‹_›) (.inl ‹_›)]))⟩,C⟩
 refine .r 2 ?_
 obtain ⟨aQ,ao⟩:∃ y,w_[1]? = some y:=⟨_,AP AB⟩
 have bO:=UInt8.toNat_lt aQ; have bP:=AX ao
 refine RG.Lo (t:=9) (s:=w_) (k:=.i64) (i:=1) 1 AA AA AB ao<|.ne (aQ.toNat:Int) 61 (fun ba=>?_) (fun ba=>?_)
 ·refine .r 1<|.d<|.ct<|.s<|.g<|.ln J<|.sc [.string (bs []),.string (bs []),.bool false] E fun cg aq bc bd=>?_
  replace ⟨J,C⟩:=(s1 aq).g2 J C
  exact .r 1<|.d<|.r2 Tryz.func215 Tryz.results215 (.bx bc) (.t (.bool false)) ⟨⟨_,(CS rfl (congrArg Value.bool (by rw [C5 (Ik ‹_›) (.inr ⟨_,by assumption,by assumption⟩)]))),(VS.of (y:=(⟨(⟨[],[]⟩:Tag),false⟩:Cnd)) ⟨_,rfl,rfl⟩ (by rw [C5 (Ik ‹_›) (.inr ⟨_,by assumption,by assumption⟩)]))⟩,C⟩
 refine .r 1<|.d<|.cf<|.sk<|.s<|.gd nil 4 fun ci ar=>?_
 replace ⟨E,J,C⟩:=(se [] ar).g3 E J C
 refine .r [0]<|GA.Lp (i:=1) (t:=9) (lo:=none) (hi:=some (vI 1)) (s:=w_) AA 0 1 AA AA (.inl ⟨rfl,rfl⟩) (.inr ⟨_,_,rfl,by omega⟩) AB AB<|.r [2]<|GA.Lp (i:=3) (t:=9) (lo:=some (vI 2)) (hi:=none) (s:=w_) AA 2 w_.length AA AA (.inr ⟨_,_,rfl,by omega⟩) (.inl ⟨rfl,rfl⟩) AB AB<|.d fun cj au=>?_
 replace ⟨E,J,C⟩:=(se [] au).g3 E J C
 refine .r 2<|.sb 0 (.agg #[.string (bs ((w_.take 1).drop 0)),.string (bs ((w_.take w_.length).drop 2))]) [.string (bs ((w_.take 1).drop 0)),.string (bs ((w_.take w_.length).drop 2)),.bool false] J fun ck av aa bg=>?_
 replace ⟨E,C⟩:=(s1 av).g2 E C
 refine .d<|.s<|.gd nil 4 fun cm aw=>?_
 replace ⟨E,aa,C⟩:=(se [] aw).g3 E aa C
 refine .ln 0 aa id<|.r [1]<|.ln 2 aa id<|GA.Bz (i:=3) AA (fun bK bQ=>En (⟨((w_.take 1).drop 0),((w_.take w_.length).drop 2)⟩:Tag) (w:=bK) (F:=all))<|.d fun co ax=>?_
 replace ⟨E,C⟩:=(se [] ax).g2 E C
 refine .sc [.string (bs ((w_.take 1).drop 0)),.string (bs ((w_.take w_.length).drop 2)),.bool false] E fun cp ay bh bi=>?_
 replace C:=(s1 ay).g1 C
 exact .r 1<|.d<|.r2 Tryz.func215 Tryz.results215 (.bx bh) (.t (.bool (Bg (⟨((w_.take 1).drop 0),((w_.take w_.length).drop 2)⟩:Tag)))) ⟨⟨_,(CS rfl (congrArg Value.bool (by rw [Et (Ik ‹_›) ‹_› ‹_› ‹_›]))),(VS.of (y:=(⟨(⟨((w_.take 1).drop 0),((w_.take w_.length).drop 2)⟩:Tag),false⟩:Cnd)) ⟨_,rfl,rfl⟩ (by rw [Et (Ik ‹_›) ‹_› ‹_› ‹_›]))⟩,C⟩
theorem Hv (text_:Str) {w:World} {F:Nat→Prop}  (p0:text_.length≤1000):Calls Tryz.prog 205 [.string (bs text_)].toArray w (As fun rv w'=>(∃ v0,rv=.tuple #[v0,.bool ((Bm text_).2)]∧VL (ge w.heap.size) w' ((Bm text_).1:List Cnd) v0)∧Ext w w'):=by
 refine goT Tryz.func205<|.s<|.g<|.r 2<|.d<|.s<|.g<|.ns 0 198 [] fun aa aT ar aG bj bk=>?_
 have aH:=Ad ar (Nat.le_refl _)
 have bm:Cov nil w aa:=Bc ar (Nat.le_refl _)
 have C:=aG
 have af:Own (α:=Cnd) aT aa 198 (nin (ge w.heap.size) [aa]) 0 0 []:=Own.Ag bj
 refine .r 1<|.d<|.s<|.s<|.g<|.r 1<|RG.eqv (v:=.bool ((text_==[42]))) AA (SX text_ [42]) ?_
 cases bX:(text_==[42])
 ·refine .d<|.cf<|.sk<|.s<|.g<|.r 1<|.cl (Lx text_ (44:UInt8) AB (w:=aT) (F:=all)) ?_
  rintro cr aE ⟨⟨bN,bO,rfl,al⟩,aI⟩
  have aJ:=al1 af.lt
  have bn:Gb w.heap.size aT.heap.size:=C.size
  replace ⟨af,C⟩:=(se [aa] aI).g2 af C
  have al:=al.fr aJ bn
  have bY:=al.max
  refine .r 1<|.d<|.s<|.s<|.g<|.r 1<|.d<|.b 0<|T.loop (X:=(List Cnd) × Nat × Nat × Nat × Nat) (([]:List Cnd),aa,0,0,0) (fun (out,r_out,n_out,c_out,i)=>[(4,vS r_out n_out c_out),(5,.slice bN ((Ht text_ (44:UInt8)).length) bO),(6,vI (i:Int))]) (fun (out,r_out,n_out,c_out,i) au=>Chg (ins [aa]) aE au∧Own au r_out 198 (nin (ge w.heap.size) [r_out]) n_out c_out out∧OrB r_out aa aE.heap.size∧(i≤(Ht text_ 44).length)∧(out.length≤i)∧(GC out ((Ht text_ 44).drop i)=Bm text_)) (fun (out,r_out,n_out,c_out,i)=>(Ht text_ 44).length - i) AA ⟨AA,AA,AA,trivial⟩ ⟨Chg.refl _ _,af,BJ,(by (simp; done)),(by (simp; done)),(by exact Nf ‹_›)⟩ ?_
  rintro ⟨out,r_out,n_out,c_out,i⟩ cu au ⟨J,E,ag,bZ,b0,b6⟩ av
  have bo:=Bv ag aH C.size
  have b7:=Ar ag bm C.size
  have bq:Cov (ins [aa]) aE aa:=⟨.inl AD⟩
  have b8:=Ar ag bq (Nat.le_refl _)
  have aK:Mv [aa] [r_out] aE au:=Mv.inl J (all_cons AD all_nil) (all_cons (BV ag AD) all_nil)
  replace ⟨al,C⟩:=(sp aK J).g2 al C
  have b9:=E.len; have cd:=E.max
  refine .s<|.s<|.g<|.r 3<|.bp ((i:Int)< (((Ht text_ (44:UInt8)).length):Int)) (fun br=>?_) (fun br=>?_)
  ·refine .d<|.ct<|.sk<|.s<|.b 1<|.s<|.g<|.r 2 ?_
   have bt:i< (Ht text_ (44:UInt8)).length:=AB
   refine .ix i 1 al bt ?_
   obtain ⟨O,aw⟩:∃ y,(Ht text_ (44:UInt8))[i]? = some y:=⟨_,AP AB⟩
   have ce:=AX aw; have bM:=AQ aw
   obtain ⟨_,rfl,bu⟩:=al.elem i O aw
   refine .lh 0 bu<|.cl (Kr O.s (by have q1:=(Mf text_ 44).1 _ ‹_›; omega) (w:=au) (F:=all)) ?_
   rintro cw cx ⟨⟨cy,rfl,⟨_,rfl,rfl⟩⟩,aL⟩
   replace ⟨E,C,J⟩:=(se [r_out] aL).g3 E C J
   refine .r 2 ?_
   cases cg:(Cq O.s).2
   ·refine .r 1<|.np 198 [.string (bs []),.string (bs []),.bool false] fun aF cz ah aM bv bw=>?_
    have ci:=AS ah E.lt
    have cj:=C.cn ah
    have ck:=J.cn ah
    replace ⟨E,C,J⟩:=(sn [r_out] aM ah).g3 E C J
    refine .sc [.string (bs ((((Cq O.s).1).tag).key)),.string (bs ((((Cq O.s).1).tag).val)),.bool (((Cq O.s).1).no)] bv fun cA aN bz bA=>?_
    replace ⟨E,C,J⟩:=(so [aF,r_out] aN).g3 E C J
    refine .r 1<|.d<|.s<|.s<|.g<|.r 7<|.d<|.ct<|.s<|.g<|.ns 0 198 [] fun ax bB ai aO bC bD=>?_
    have cm:=AS ai E.lt
    have co:=AS ai bz.lt
    have bE:=Ad ai C.size
    replace ⟨E,C,J⟩:=(sn [aF,r_out] aO ai).g3 E C J
    have bF:Own (α:=Cnd) bB ax 198 (nin (ge w.heap.size) [ax,aF,r_out]) 0 0 []:=Own.Ag bC
    refine .r 2<|.d ?_
    have bP:=bF.sl bE
    replace E:=(sd bB [ax,aF,r_out] ax).g1 E
    exact .r2 Tryz.func205 Tryz.results205 (.t (vS ax 0 0)) (.t (.bool false)) ⟨⟨_,(CS rfl (congrArg Value.bool (by rw [Jq (Y:=Bm text_) ‹_› ‹_› (.inl ‹_›)]))),(bP.vl (by rw [Jq (Y:=Bm text_) ‹_› ‹_› (.inl ‹_›)]) (fun _ _ h=>h.1))⟩,C⟩
   refine .r 1<|.np 198 [.string (bs []),.string (bs []),.bool false] fun am cB aj aP bG bH=>?_
   have bQ:=AS aj E.lt
   have bR:=C.cn aj
   have bS:=J.cn aj
   replace ⟨E,C,J⟩:=(sn [r_out] aP aj).g3 E C J
   refine .sc [.string (bs ((((Cq O.s).1).tag).key)),.string (bs ((((Cq O.s).1).tag).val)),.bool (((Cq O.s).1).no)] bG fun cp ay ab aU=>?_
   replace ⟨E,C,J⟩:=(so [am,r_out] ay).g3 E C J
   refine .r 1<|.d<|.s<|.s<|.g<|.r 5<|.bp ((n_out:Int)≥3) (fun aV=>?_) (fun aV=>?_)
   ·refine .r 1<|.d<|.ct<|.s<|.g<|.ns 0 198 [] fun ak aQ ac az aW aX=>?_
    have bT:=AS ac E.lt
    have bU:=AS ac ab.lt
    have aY:=Ad ac C.size
    replace ⟨E,ab,C,J⟩:=(sn [am,r_out] az ac).g4 E ab C J
    have aZ:Own (α:=Cnd) aQ ak 198 (nin (ge w.heap.size) [ak,am,r_out]) 0 0 []:=Own.Ag aW
    refine .r 2<|.d ?_
    have bI:=aZ.sl aY
    replace E:=(sd aQ [ak,am,r_out] ak).g1 E
    exact .r2 Tryz.func205 Tryz.results205 (.t (vS ak 0 0)) (.t (.bool false)) ⟨⟨_,(CS rfl (congrArg Value.bool (by rw [Jq (Y:=Bm text_) ‹_› ‹_› (.inr AB)]))),(bI.vl (by rw [Jq (Y:=Bm text_) ‹_› ‹_› (.inr AB)]) (fun _ _ h=>h.1))⟩,C⟩
   refine .r 1<|.d<|.cf<|.sk<|.g<|.r 1<|.ln ab<|.ns 1 198 [.string (bs ((((Cq O.s).1).tag).key)),.string (bs ((((Cq O.s).1).tag).val)),.bool (((Cq O.s).1).no)] fun aR cq ae aA ba bc=>?_
   have aB:=AS ae E.lt
   have bd:=AS ae ab.lt
   have bg:=Ad ae C.size
   replace ⟨E,C,J⟩:=(se [am,r_out] aA).g3 E C J
   have aq:nin (ge w.heap.size) [am,r_out] aR∧aR≠r_out:=BG bg (all_cons bd (all_cons aB all_nil)) aB
   refine RG.Ap (T:=152) (ty:=152) (y:=(⟨(⟨(((Cq O.s).1).tag).key,(((Cq O.s).1).tag).val⟩:Tag),((Cq O.s).1).no⟩:Cnd)) E ba AA AA rfl aq (by have q1:=(Mf text_ 44).2; omega) fun aC bJ aS W ao aD=>?_
   have bh:=Bo ao ag J.size
   replace ⟨C,J⟩:=(s1 aD).g2 C J
   replace W:=W.rn r_out
   have bV:=W.len; have bW:=W.max
   refine .r 1<|.d<|.ib 1<|.g<|.r 1<|.it ((i:Int)+1)<|.r 1<|.d ?_
   have bi:Mv [am,aC] [aC] aS aS:=Mv.less (all_cons AE all_nil)
   replace W:=(sp bi (Chg.refl nil _)).g1 W
   exact av ((out++[(⟨(⟨(((Cq O.s).1).tag).key,(((Cq O.s).1).tag).val⟩:Tag),((Cq O.s).1).no⟩:Cnd)]),aC,n_out+1,bJ,i+1) _ _ ⟨AA,AA,AA,trivial⟩ ⟨J,W,bh,AB,(by simp; omega),(by exact Qk ‹_› ‹_› ‹_› AB)⟩ (by (simp only []; omega))
  refine .d<|.cf<|.x 0 rfl<|.s<|.g<|.r 3<|.d ?_
  have bK:=E.sl bo
  exact .r2 Tryz.func205 Tryz.results205 (.t (vS r_out n_out c_out)) (.t (.bool true)) ⟨⟨_,(CS rfl (congrArg Value.bool (by rw [Og (Y:=Bm text_) ‹_› AB]))),(bK.vl (by rw [Og (Y:=Bm text_) ‹_› AB]) (fun _ _ h=>h.1))⟩,C⟩
 refine .d<|.ct<|.s<|.g<|.r 3<|.d ?_
 have bL:=af.sl aH
 exact .r2 Tryz.func205 Tryz.results205 (.t (vS aa 0 0)) (.t (.bool true)) ⟨⟨_,(CS rfl (congrArg Value.bool (by rw [KE ‹_›]))),(bL.vl (by rw [KE ‹_›]) (fun _ _ h=>h.1))⟩,C⟩
theorem JW (text_:Str) {w:World} {F:Nat→Prop}  (p0:text_.length≤1000):Calls Tryz.prog 187 [.string (bs text_)].toArray w (As fun rv w'=>(∃ (y:Bool),(∃ v0,rv=.tuple #[v0,.bool (y)]∧VL (ge w.heap.size) w' (Fj text_:List Tag) v0)∧(True))∧Ext w w'):=by
 refine goT Tryz.func187<|.s<|.g<|.r 2<|.d<|.s<|.g<|.r 1<|.cl (Hv text_ AB (w:=w) (F:=all)) ?_
 rintro dm dp ⟨⟨dq,rfl,⟨bR,bS,rfl,J⟩⟩,aW⟩
 have aX:∀ q_∈([]:List Nat),q_< w.heap.size:=all_nil
 have bT:Gb w.heap.size w.heap.size:=(Nat.le_refl _)
 have C:=aW
 have J:=J.fr aX bT
 have cR:=J.max
 refine .r 2 ?_
 cases cS:(Bm text_).2
 ·refine .r 3<|.d<|.s<|.g<|.ns 0 120 [] fun ak aD aE aY bU bV=>?_
  have bW:=C.cn aE
  replace ⟨J,C⟩:=(sn [] aY aE).g2 J C
  have bX:Own (α:=Tag) aD ak 120 (nin (ge w.heap.size) [ak]) 0 0 []:=Own.Ag bU
  refine .r 1<|.d<|.s<|.s<|.g<|.r 1<|.d<|.b 0<|T.loop (X:=(List Tag) × Nat × Nat × Nat × Nat) (([]:List Tag),ak,0,0,0) (fun (out,r_out,n_out,c_out,i)=>[(4,.slice bR (((Bm text_).1).length) bS),(5,.bool false),(6,vS r_out n_out c_out),(7,vI (i:Int))]) (fun (out,r_out,n_out,c_out,i) aV=>Chg (ins [ak]) aD aV∧Own aV r_out 120 (nin (ge w.heap.size) [r_out]) n_out c_out out∧OrB r_out ak aD.heap.size∧(i≤(Bm text_).1.length)∧(out.length≤i)∧(Dq out ((Bm text_).1.drop i)=Dq [] (Bm text_).1)) (fun (out,r_out,n_out,c_out,i)=>(Bm text_).1.length - i) AA ⟨AA,AA,AA,AA,trivial⟩ ⟨Chg.refl _ _,bX,BJ,(by simp),(by simp),(by simp)⟩ ?_
  rintro ⟨out,r_out,n_out,c_out,i⟩ dr aV ⟨aa,O,ax,cT,cU,cV⟩ aF
  have cW:=Ar ax bW C.size
  have bY:Cov (ins [ak]) aD ak:=⟨.inl AD⟩
  have cX:=Ar ax bY (Nat.le_refl _)
  have aZ:Mv [ak] [r_out] aD aV:=Mv.inl aa (all_cons AD all_nil) (all_cons (BV ax AD) all_nil)
  replace ⟨J,C⟩:=(sp aZ aa).g2 J C
  have cY:=O.len; have cZ:=O.max
  refine .s<|.s<|.g<|.r 3<|.bp ((i:Int)< ((((Bm text_).1).length):Int)) (fun bZ=>?_) (fun bZ=>?_)
  ·refine .d<|.ct<|.sk<|.s<|.b 1<|.s<|.s<|.g<|.r 2 ?_
   have b0:i< ((Bm text_).1).length:=AB
   refine .ix i 3 J b0<|.r 1 ?_
   obtain ⟨aA,aG⟩:∃ y,((Bm text_).1)[i]? = some y:=⟨_,AP AB⟩
   have c7:=AX aG; have cx:=AQ aG
   obtain ⟨_,rfl,ba⟩:=J.elem i aA aG
   refine .lh 2 ba<|.d ?_
   cases c8:aA.no
   ·refine .cf<|.sk<|.g<|.r 3 ?_
    have b6:i< ((Bm text_).1).length:=AB
    refine .ix i 3 J b6<|.r 1<|.lg 0 ba<|.ns 1 120 [vT aA.tag.key,vT aA.tag.val] fun b7 dt aH bc b8 b9=>?_
    have bd:=AS aH O.lt
    have cd:=Ad aH C.size
    replace ⟨J,O,C,aa⟩:=(se [r_out] bc).g4 J O C aa
    have aI:nin (ge w.heap.size) [r_out] b7∧b7≠r_out:=BG cd (all_cons bd all_nil) bd
    refine RG.Ap (T:=77) (ty:=77) (y:=aA.tag) O b8 AA AA rfl aI (by have q1:=Gr text_; omega) fun cz cA du al au bg=>?_
    have ce:=Bo au ax aa.size
    replace ⟨J,C,aa⟩:=(sa [r_out] bg au).g3 J C aa
    replace al:=al.rn r_out
    have c9:=al.len; have da:=al.max
    exact .r 1<|.d<|.ib 1<|.g<|.r 1<|RG.int ((i:Int)+1) AA (by have q1:=Gr text_; omega)<|.r 1<|.d<|aF ((out++[aA.tag]),cz,n_out+1,cA,i+1) _ _ ⟨AA,AA,AA,AA,trivial⟩ ⟨aa,al,ce,AB,(by simp; omega),(by exact Mh ‹_› ‹_› ‹_›)⟩ (by (simp only []; omega))
   refine .ct<|.s<|.g<|.ns 0 120 [] fun aJ cg ay bh ci cj=>?_
   have db:=AS ay O.lt
   have ck:=Ad ay C.size
   replace ⟨J,O,C⟩:=(sn [r_out] bh ay).g3 J O C
   have cm:Own (α:=Tag) cg aJ 120 (nin (ge w.heap.size) [aJ,r_out]) 0 0 []:=Own.Ag ci
   refine .r 2<|.d ?_
   have cB:=cm.sl ck
   replace ⟨J,O⟩:=(sd cg [aJ,r_out] aJ).g2 J O
   exact .r2 Tryz.func187 Tryz.results187 (.t (vS aJ 0 0)) (.t (.bool false)) ⟨⟨(false:Bool),⟨_,(CS rfl (congrArg Value.bool (by rfl))),(cB.vl (by rw [Mi (Mg (Y:=Dq [] (Bm text_).1) ‹_› ‹_› ‹_›)]) (fun _ _ h=>h.1))⟩,(by trivial)⟩,C⟩
  refine .d<|.cf<|.x 0 rfl<|.s<|.s<|.g<|.r 7<|.d<|.ct<|.s<|.g<|.ns 0 120 [] fun aK bi ag aL bn bo=>?_
  have cC:=AS ag O.lt
  have bq:=Ad ag C.size
  replace ⟨J,C⟩:=(sn [r_out] aL ag).g2 J C
  have br:Own (α:=Tag) bi aK 120 (nin (ge w.heap.size) [aK,r_out]) 0 0 []:=Own.Ag bn
  refine .r 2<|.d ?_
  have co:=br.sl bq
  replace J:=(sd bi [aK,r_out] aK).g1 J
  exact .r2 Tryz.func187 Tryz.results187 (.t (vS aK 0 0)) (.t (.bool false)) ⟨⟨(false:Bool),⟨_,(CS rfl (congrArg Value.bool (by rfl))),(co.vl (by rw [Mj ‹_› AB (.inl ‹_›)]) (fun _ _ h=>h.1))⟩,(by trivial)⟩,C⟩
 refine .r 3<|.d<|.s<|.g<|.ns 0 120 [] fun ab am ah aM bt bu=>?_
 have bv:=Ad ah C.size
 have bw:=C.cn ah
 replace ⟨J,C⟩:=(sn [] aM ah).g2 J C
 have bz:Own (α:=Tag) am ab 120 (nin (ge w.heap.size) [ab]) 0 0 []:=Own.Ag bt
 refine .r 1<|.d<|.s<|.s<|.g<|.r 1<|.d<|.b 0<|T.loop (X:=(List Tag) × Nat × Nat × Nat × Nat) (([]:List Tag),ab,0,0,0) (fun (out,r_out,n_out,c_out,i)=>[(4,.slice bR (((Bm text_).1).length) bS),(5,.bool true),(6,vS r_out n_out c_out),(7,vI (i:Int))]) (fun (out,r_out,n_out,c_out,i) ao=>Chg (ins [ab]) am ao∧Own ao r_out 120 (nin (ge w.heap.size) [r_out]) n_out c_out out∧OrB r_out ab am.heap.size∧(i≤(Bm text_).1.length)∧(out.length≤i)∧(Dq out ((Bm text_).1.drop i)=Dq [] (Bm text_).1)) (fun (out,r_out,n_out,c_out,i)=>(Bm text_).1.length - i) AA ⟨AA,AA,AA,AA,trivial⟩ ⟨Chg.refl _ _,bz,BJ,(by simp),(by simp),(by simp)⟩ ?_
 rintro ⟨out,r_out,n_out,c_out,i⟩ de ao ⟨W,E,ac,cD,cE,cF⟩ aB
 have bA:=Bv ac bv C.size
 have cG:=Ar ac bw C.size
 have bB:Cov (ins [ab]) am ab:=⟨.inl AD⟩
 have cH:=Ar ac bB (Nat.le_refl _)
 have aN:Mv [ab] [r_out] am ao:=Mv.inl W (all_cons AD all_nil) (all_cons (BV ac AD) all_nil)
 replace ⟨J,C⟩:=(sp aN W).g2 J C
 have cI:=E.len; have cJ:=E.max
 refine .s<|.s<|.g<|.r 3<|.bp ((i:Int)< ((((Bm text_).1).length):Int)) (fun bC=>?_) (fun bC=>?_)
 ·refine .d<|.ct<|.sk<|.s<|.b 1<|.s<|.s<|.g<|.r 2 ?_
  have bD:i< ((Bm text_).1).length:=AB
  refine .ix i 3 J bD<|.r 1 ?_
  obtain ⟨af,av⟩:∃ y,((Bm text_).1)[i]? = some y:=⟨_,AP AB⟩
  have cK:=AX av; have cp:=AQ av
  obtain ⟨_,rfl,aO⟩:=J.elem i af av
  refine .lh 2 aO<|.d ?_
  cases cL:af.no
  ·refine .cf<|.sk<|.g<|.r 3 ?_
   have bE:i< ((Bm text_).1).length:=AB
   refine .ix i 3 J bE<|.r 1<|.lg 0 aO<|.ns 1 120 [vT af.tag.key,vT af.tag.val] fun bj df aw aP bF bG=>?_
   have aQ:=AS aw E.lt
   have bH:=Ad aw C.size
   replace ⟨E,C,W⟩:=(se [r_out] aP).g3 E C W
   have aC:nin (ge w.heap.size) [r_out] bj∧bj≠r_out:=BG bH (all_cons aQ all_nil) aQ
   refine RG.Ap (T:=77) (ty:=77) (y:=af.tag) E bF AA AA rfl aC (by have q1:=Gr text_; omega) fun cq cr dg ae az aR=>?_
   have bI:=Bo az ac W.size
   replace ⟨C,W⟩:=(s1 aR).g2 C W
   replace ae:=ae.rn r_out
   have cM:=ae.len; have cN:=ae.max
   exact .r 1<|.d<|.ib 1<|.g<|.r 1<|RG.int ((i:Int)+1) AA (by have q1:=Gr text_; omega)<|.r 1<|.d<|aB ((out++[af.tag]),cq,n_out+1,cr,i+1) _ _ ⟨AA,AA,AA,AA,trivial⟩ ⟨W,ae,bI,AB,(by simp; omega),(by exact Mh ‹_› ‹_› ‹_›)⟩ (by (simp only []; omega))
  refine .ct<|.s<|.g<|.ns 0 120 [] fun aq bk ai aS bJ bK=>?_
  have cO:=AS ai E.lt
  have bL:=Ad ai C.size
  replace ⟨E,C⟩:=(sn [r_out] aS ai).g2 E C
  have bM:Own (α:=Tag) bk aq 120 (nin (ge w.heap.size) [aq,r_out]) 0 0 []:=Own.Ag bJ
  refine .r 2<|.d ?_
  have cu:=bM.sl bL
  replace E:=(sd bk [aq,r_out] aq).g1 E
  exact .r2 Tryz.func187 Tryz.results187 (.t (vS aq 0 0)) (.t (.bool false)) ⟨⟨(false:Bool),⟨_,(CS rfl (congrArg Value.bool (by rfl))),(cu.vl (by rw [Mi (Mg (Y:=Dq [] (Bm text_).1) ‹_› ‹_› ‹_›)]) (fun _ _ h=>h.1))⟩,(by trivial)⟩,C⟩
 refine .d<|.cf<|.x 0 rfl<|.s<|.s<|.g<|.r 4<|.cl (ET out (E.rep) (w:=ao) (F:=all)) ?_
 rintro dh dj ⟨rfl,aT⟩
 replace ⟨E,C⟩:=(se [r_out] aT).g2 E C
 cases cP:(BS out)
 ·refine .r 2<|.d<|.ct<|.s<|.g<|.ns 0 120 [] fun ar bm aj aU bN bO=>?_
  have cQ:=AS aj E.lt
  have bP:=Ad aj C.size
  replace ⟨E,C⟩:=(sn [r_out] aU aj).g2 E C
  have bQ:Own (α:=Tag) bm ar 120 (nin (ge w.heap.size) [ar,r_out]) 0 0 []:=Own.Ag bN
  refine .r 2<|.d ?_
  have cv:=bQ.sl bP
  replace E:=(sd bm [ar,r_out] ar).g1 E
  exact .r2 Tryz.func187 Tryz.results187 (.t (vS ar 0 0)) (.t (.bool false)) ⟨⟨(false:Bool),⟨_,(CS rfl (congrArg Value.bool (by rfl))),(cv.vl (by rw [Mj ‹_› AB (.inr ‹_›)]) (fun _ _ h=>h.1))⟩,(by trivial)⟩,C⟩
 refine .r 2<|.d<|.cf<|.sk<|.s<|.g<|.r 3<|.d ?_
 have cw:=E.sl bA
 exact .r2 Tryz.func187 Tryz.results187 (.t (vS r_out n_out c_out)) (.t (.bool true)) ⟨⟨(true:Bool),⟨_,(CS rfl (congrArg Value.bool (by rfl))),(cw.vl (by rw [Ql ‹_› AB ‹_› ‹_›]) (fun _ _ h=>h.1))⟩,(by trivial)⟩,C⟩
end Go.Proofs.YtganlmloonielaaGreat
namespace Go.Proofs.YtganlmloonielaaGreat
theorem NmD.sz {n:List Tag} (h:NmD n):Fg n:=⟨by have:=h.1; omega,fun t ht=>by
 obtain ⟨h1,h2⟩:=h.2 t ht
 simp only [List.mem_cons,List.not_mem_nil,or_false] at h1 h2
 constructor
 ·rcases h1 with h1 | h1 | h1 <;> rw [h1] <;> simp
 ·rcases h2 with h2 | h2 | h2 | h2 | h2 | h2 <;> rw [h2] <;> simp⟩
theorem NmD.nil:NmD []:=⟨by simp,by simp⟩
theorem Oh {y:Str} (h:(⟨y⟩:Txt)∈([(⟨[97,61,112]⟩:Txt),(⟨[97,61,113,44,98,61,112]⟩:Txt),(⟨[98,61,122,44,99,61,113]⟩:Txt)]:List Txt)):NmD (Fj y)∧y.length≤1000:=by
 simp only [List.mem_cons,List.not_mem_nil,or_false,Txt.mk.injEq] at h
 rcases h with rfl | rfl | rfl
 ·have:Fj [97,61,112]=[⟨[97],[112]⟩]:=by decide +kernel
  rw [this]
  exact ⟨⟨by simp,by simp [G2]⟩,by simp⟩
 ·have:Fj [97,61,113,44,98,61,112]=[⟨[97],[113]⟩,⟨[98],[112]⟩]:=by decide +kernel
  rw [this]
  exact ⟨⟨by simp,by simp [G2]⟩,by simp⟩
 ·have:Fj [98,61,122,44,99,61,113]=[⟨[98],[122]⟩,⟨[99],[113]⟩]:=by decide +kernel
  rw [this]
  exact ⟨⟨by simp,by simp [G2]⟩,by simp⟩
def NsD (ns:List (List Tag)):Prop:=∀ n∈ns,NmD n
structure WD (w:Wld):Prop where
 wi:WI w
 sn:NsD w.store.idx.names
 dn:NsD w.disk.names
theorem NsD.nil:NsD []:=by intro n hn; cases hn
theorem WD.new:WD ⟨⟨⟨[],[]⟩,[],[]⟩,⟨[],[],[],1⟩⟩:=⟨WI.new,NsD.nil,NsD.nil⟩
theorem PO (Q:List (List Tag)→Prop):∀ (st:List Stp) (d:Dsk),Q d.names→(∀ x∈st,x.kind=2→Q x.names)→Q (st.foldl doD d).names:=by
 intro st
 induction st with
 | nil=>intro d h _; exact h
 | cons x xs ih =>
   intro d h hs
   refine ih (doD d x) ?_ (fun y hy=>hs y (by simp [hy]))
   unfold doD
   split
   ·exact h
   ·split
    ·exact hs x (by simp) ‹_›
    ·split
     ·exact h
     ·exact h
theorem WD.steps {w:Wld} (h:WD w) {st:List Stp} (hs:∀ x∈st,x.kind=2→NsD x.names) (cut:Int) {s:Sto} (h2:NsD s.idx.names):NsD (Bb w st cut s).store.idx.names∧NsD (Bb w st cut s).disk.names:=by
 have h3:NsD (toD w.disk st cut).names:=PO NsD _ _ h.dn (fun x hx hk=>hs x (List.mem_of_mem_take hx) hk)
 unfold Bb
 split
 ·exact ⟨h.sn,h.dn⟩
 ·split
  ·exact ⟨h3,h3⟩
  ·exact ⟨h2,h3⟩
theorem Ng {s:Sto} {n:List Tag} {r:Row} (h:NsD s.idx.names) (hn:NmD n):NsD (C3 s n r).1.idx.names:=by
 have h1:NsD (CI s.idx n).1.names:=by
  unfold CI
  split
  ·exact h
  ·split
   ·exact h
   ·intro m hm
    rcases List.mem_append.1 hm with hm | hm
    ·exact h m hm
    ·simp at hm; rw [hm]; exact hn
 unfold C3
 split
 ·exact h
 ·split
  ·exact h
  ·exact h1
theorem Nh (s:Sto):(At s).1.idx=s.idx:=by unfold At; split <;> rfl
theorem Ni (s:Sto) (a:Int):(Av s a).1.idx=s.idx:=by unfold Av; split <;> rfl
theorem PQ {w:Wld} (h:WD w):∀ x∈BZ w.disk w.store,x.kind=2→NsD x.names:=by
 unfold BZ
 split
 ·intro x hx; cases hx
 ·intro x hx _
  simp only [List.mem_cons,List.not_mem_nil,or_false] at hx
  rcases hx with rfl | rfl
  ·exact NsD.nil
  ·exact h.sn
theorem PR {d:Dsk} (h:NsD d.names) (a:Int):∀ x∈Ba d a,x.kind=2→NsD x.names:=by
 unfold Ba
 split
 ·intro x hx; cases hx
 ·intro x hx _
  simp only [List.mem_cons,List.not_mem_nil,or_false] at hx
  rcases hx with rfl | rfl | rfl | rfl
  ·exact NsD.nil
  ·exact h
  ·exact NsD.nil
  ·exact NsD.nil
theorem WD.do {w:Wld} (h:WD w) {e:Evt} (he:NmD e.name):WD (doW w e):=by
 have key:NsD (doW w e).store.idx.names∧NsD (doW w e).disk.names:=by
  unfold doW
  split
  ·split
   ·exact ⟨Ng h.sn he,h.dn⟩
   ·exact ⟨h.sn,h.dn⟩
  ·split
   ·exact h.steps (PQ h) _ (by rw [Nh]; exact h.sn)
   ·split
    ·exact h.steps (PR h.dn _) _ (by rw [Ni]; exact h.sn)
    ·split
     ·exact ⟨h.dn,h.dn⟩
     ·exact ⟨h.sn,h.dn⟩
 exact ⟨h.wi.do e,key.1,key.2⟩
theorem WD.copy {w:Wld} (h:WD w):WD (Cx w):=⟨h.wi.copy,h.sn,h.dn⟩
def EvD (e:Evt):Prop:=NmD e.name∧E4 e.row
structure SD (s:Sto):Prop where
 idx:s.idx=idxOf s.idx.names
 nm:NmI s.idx.names
 nd:NsD s.idx.names
 np:s.parts.length≤6
 part:∀ p∈s.parts,PrtI p
 nm2:s.mem.length≤21
 mem:∀ m∈s.mem,0≤m.id∧m.id≤7∧E4 m.row
theorem Qm {r:Row} (h:Bw r=true):E4 r:=by
 have h1:=Jo h
 have h2:=OZ h
 unfold E4
 omega
theorem WD.sd {w:Wld} (h:WD w):SD w.store:=⟨h.wi.sto.idx,h.wi.sto.nm,h.sn,h.wi.sto.np,h.wi.sto.part,by have:=h.wi.sto.nm2; omega,fun m hm=>by
 have h1:=h.wi.sto.Hs m hm
 exact ⟨by omega,by omega,Qm (h.wi.sto.mem m hm).2.2⟩⟩
theorem WD.VW {w:Wld} (h:WD w) {y:Int} {r:Row} (hy:0≤y∧y≤7) (hr:E4 r):SD ⟨⟨w.store.idx.names,w.store.idx.AV⟩,w.store.parts,w.store.mem++[⟨y,r⟩]⟩:=by
 have h1:=h.sd
 refine ⟨h1.idx,h1.nm,h1.nd,h1.np,h1.part,by have:=h.wi.sto.nm2; simp; omega,fun m hm=>?_⟩
 rcases List.mem_append.1 hm with hm | hm
 ·exact h1.mem m hm
 ·simp at hm; subst hm; exact ⟨hy.1,hy.2,hr⟩
end Go.Proofs.YtganlmloonielaaGreat
namespace Go.Proofs.YtganlmloonielaaGreat
set_option maxRecDepth 100000
set_option maxHeartbeats 4000000
theorem Ed  {w:World} {F:Nat→Prop} {b:Nat} {ad:Option Addr} {cd p:Nat} {D:List UInt8} (hr:Box w b 122 [.slice ad D.length cd,.int .i64 (p:Int)]) (hD:RepS w (nin all [b]) ad D.length cd D) (hp:p+25≤1000000000)  : Calls Tryz.prog 166 [.pointer (some ⟨b,0,none⟩)].toArray w (As fun rv w'=>(∃ (y:List Tag),VL (ge w.heap.size) w' (y:List Tag) rv∧(NmD y))∧∃ p':Nat,p'≤p+25∧Box w' b 122 [.slice ad D.length cd,.int .i64 (p':Int)]∧Chg (one b) w w'):=by
 refine goT Tryz.func166 ?_
 have aI:=hD.max
 refine .s<|.g<|.r 1<|.d<|.s<|.s<|.g<|.r 1<|.cl (AZ 4 hr (hD.BB AD) AB (w:=w) (F:=all)) ?_
 rintro aS al ⟨⟨aB,rfl,aJ⟩,aT,aK,E,W⟩
 replace hD:=(so [b] W).g1 hD
 have C:Chg (one b) w al:=Chg.Ew (Chg.refl (one b) w) W (Cov.mk1 w b)
 refine .eq aB 0 (fun ao=>?_) (fun ao=>?_)
 ·refine .d<|.ct<|.s<|.g<|.r 1<|.cl (GY E (hD.BB AD) AB (w:=al) (F:=all)) ?_
  rintro aU aV ⟨⟨aq,⟨aC,aD,rfl,ab⟩,aL⟩,aE,aM,ar,af⟩
  have ag:=al1 E.lt
  have au:Gb w.heap.size al.heap.size:=C.size
  replace ⟨hD,C⟩:=(so [b] af).g2 hD C
  have ab:=ab.fr ag au
  have aN:=ab.max
  exact .r 1<|.d<|.rt Tryz.func166 Tryz.results166 (.slice aC aq.length aD) ⟨⟨(aq:List Tag),(ab.vl (by rfl) (fun _ _ h=>h.1)),(by exact (by assumption:NmX _).1)⟩,aE,by omega,ar,C⟩
 refine .d<|.cf<|.sk<|.s<|.g<|.r 1<|.ns 3 9 [.string (bs [97,61,112]),.string (bs [97,61,113,44,98,61,112]),.string (bs [98,61,122,44,99,61,113])] fun ac av aa ah aw ax=>?_
 have ay:=AS aa E.lt
 replace ⟨hD,E,C⟩:=(sn [b] ah aa).g3 hD E C
 have J:Own (α:=Txt) av ac 9 (nin (ge w.heap.size) [ac,b]) 3 3 [(⟨[97,61,112]⟩:Txt),(⟨[97,61,113,44,98,61,112]⟩:Txt),(⟨[98,61,122,44,99,61,113]⟩:Txt)]:=Own.lit aw rfl (by decide) ⟨rfl,rfl,rfl,rfl⟩
 refine .cl (Cp ([(⟨[97,61,112]⟩:Txt),(⟨[97,61,113,44,98,61,112]⟩:Txt),(⟨[98,61,122,44,99,61,113]⟩:Txt)]:List Txt) E (hD.BB AE) AB (J.BB AE ay) (by simp) (w:=av) (F:=all)) ?_
 rintro aW az ⟨⟨am,rfl,aO⟩,aF,aP,O,ai⟩
 replace ⟨hD,J,C⟩:=(so [ac,b] ai).g3 hD J C
 refine .cl (JW am (Oh ‹_›).2 (w:=az) (F:=all)) ?_
 rintro aX aY ⟨⟨aZ,⟨ba,rfl,⟨aG,aH,rfl,ae⟩⟩,aQ⟩,aj⟩
 have ak:=al2 J.lt O.lt
 have aA:Gb w.heap.size az.heap.size:=C.size
 replace ⟨hD,O,C⟩:=(se [ac,b] aj).g3 hD O C
 have ae:=ae.fr ak aA
 have aR:=ae.max
 exact .r 5<|.d<|.s<|.g<|.r 2<|.d<|.rt Tryz.func166 Tryz.results166 (.slice aG ((Fj am).length) aH) ⟨⟨(Fj am:List Tag),(ae.vl (by rfl) (fun _ _ h=>h.1)),(by exact (Oh ‹_›).1)⟩,aF,by omega,O,C⟩
theorem JX (w_:Wld) {w:World} {F:Nat→Prop} {b:Nat} {ad:Option Addr} {cd p:Nat} {D:List UInt8} (hr:Box w b 122 [.slice ad D.length cd,.int .i64 (p:Int)]) (hD:RepS w (nin all [b]) ad D.length cd D) (hp:p+60≤1000000000) {a1:Option Addr} {n1 c1:Nat} (h1:RepS w (nin F [b]) a1 n1 c1 w_.store.idx.names) {a2:Option Addr} {n2 c2:Nat} (h2:RepS w (nin F [b]) a2 n2 c2 w_.store.idx.AV) {a3:Option Addr} {n3 c3:Nat} (h3:RepS w (nin F [b]) a3 n3 c3 w_.store.parts) {a4:Option Addr} {n4 c4:Nat} (h4:RepS w (nin F [b]) a4 n4 c4 w_.store.mem) {a5:Option Addr} {n5 c5:Nat} (h5:RepS w (nin F [b]) a5 n5 c5 w_.disk.files) {a6:Option Addr} {n6 c6:Nat} (h6:RepS w (nin F [b]) a6 n6 c6 w_.disk.list) {a7:Option Addr} {n7 c7:Nat} (h7:RepS w (nin F [b]) a7 n7 c7 w_.disk.names) (p0:w_.disk.list.length≤1000):Calls Tryz.prog 127 [.pointer (some ⟨b,0,none⟩),.agg #[.slice a1 n1 c1,.slice a2 n2 c2,.slice a3 n3 c3,.slice a4 n4 c4,.slice a5 n5 c5,.slice a6 n6 c6,.slice a7 n7 c7,.int .i64 w_.disk.next]].toArray w (As fun rv w'=>(∃ (y:Evt),VS (ge w.heap.size) w' (y:Evt) rv∧(EvD y))∧∃ p':Nat,p'≤p+60∧Box w' b 122 [.slice ad D.length cd,.int .i64 (p':Int)]∧Chg (one b) w w'):=by
 refine goT Tryz.func127 ?_
 have dF:=hD.max
 obtain rfl:=h1.len
 replace h1:=h1.Md (s:=w.heap.size)
 have dG:=h1.max
 obtain rfl:=h2.len
 replace h2:=h2.Md (s:=w.heap.size)
 have dH:=h2.max
 obtain rfl:=h3.len
 replace h3:=h3.Md (s:=w.heap.size)
 have dI:=h3.max
 obtain rfl:=h4.len
 replace h4:=h4.Md (s:=w.heap.size)
 have dJ:=h4.max
 obtain rfl:=h5.len
 replace h5:=h5.Md (s:=w.heap.size)
 have dK:=h5.max
 obtain rfl:=h6.len
 replace h6:=h6.Md (s:=w.heap.size)
 have dL:=h6.max
 obtain rfl:=h7.len
 replace h7:=h7.Md (s:=w.heap.size)
 have dM:=h7.max
 refine .s<|.g<|.np 70 [.slice a1 w_.store.idx.names.length c1,.slice a2 w_.store.idx.AV.length c2,.slice a3 w_.store.parts.length c3,.slice a4 w_.store.mem.length c4,.slice a5 w_.disk.files.length c5,.slice a6 w_.disk.list.length c6,.slice a7 w_.disk.names.length c7,vI w_.disk.next] fun O cV aK aL E co=>?_
 have dN:=AS aK hr.lt
 replace ⟨hD,hr⟩:=(sn [b] aL aK).g2 hD hr
 have C:Chg (one b) w cV:=Chg.Cc (Chg.refl (one b) w) aL
 refine .np 114 [vI 0,vI 0,vI 0,.slice none 0 0,vI 0,vI 0] fun W cW ak bz J cp=>?_
 have dO:=AS ak hr.lt
 have dP:=AS ak E.lt
 have dQ:=C.cn ak
 replace ⟨hD,hr,E,C⟩:=(sn [O,b] bz ak).g4 hD hr E C
 refine .d<|.s<|.s<|.g<|.r 1<|.cl (AZ 10 hr (hD.BB AF) AB (w:=cW) (F:=all)) ?_
 rintro eC aG ⟨⟨bu,rfl,dR⟩,eD,dS,aa,bA⟩
 replace ⟨hD,E,J,C⟩:=(so [W,O,b] bA).g4 hD E J C
 refine .d<|.b 0<|.s<|.s<|.g<|.eq bu 0 (fun cq=>?_) (fun cq=>?_)
 ·refine .r 1<|.d<|.ct<|.sk<|.ct<|.s<|.g<|.ns 5 3 [vI 2,vI 2,vI 2,vI 0,vI 1] fun aH cr aM bB cu cv=>?_
  have dT:=AS aM aa.lt
  replace ⟨hD,aa,E,J,C⟩:=(sn [W,O,b] bB aM).g5 hD aa E J C
  have aN:Own (α:=Int) cr aH 3 (nin (ge w.heap.size) [aH,W,O,b]) 5 5 [2,2,2,0,1]:=Own.lit cu rfl (by decide) ⟨rfl,rfl,rfl,rfl,rfl,rfl⟩
  refine .r 1<|.cl (AZ 5 aa (hD.BB AG) AB (w:=cr) (F:=all)) ?_
  rintro eE cX ⟨⟨aI,rfl,dU⟩,cY,dV,aO,bC⟩
  replace ⟨hD,E,J,aN,C⟩:=(so [aH,W,O,b] bC).g5 hD E J aN C
  have cw:(aI).toNat< 5:=AB
  refine RG.idx (b:=aH) (o:=0) ((aI).toNat) (len:=5) (i:=aI) (sz:=1) AA AB cw rfl ?_
  obtain ⟨bv,aP⟩:∃ y,([2,2,2,0,1]:List Int)[(aI).toNat]? = some y:=⟨_,AP AB⟩
  have dW:=AX aP; have bw:=AQ aP
  simp only [List.mem_cons,List.not_mem_nil,or_false] at bw
  obtain ⟨_,rfl,aQ⟩:=aN.elem ((aI).toNat) bv aP
  replace aQ:Has cX ⟨aH,0+((aI).toNat) * Rep.sz Int,none⟩ [vI bv]:=by rw [Nat.zero_add]; exact aQ
  refine .lh 0 aQ<|.r 1<|.sc [vI 2,vI 0,vI bv,.slice none 0 0,vI 0,vI 0] J fun eF bD cx cy=>?_
  replace ⟨hD,aO,E,C⟩:=(so [aH,W,O,b] bD).g4 hD aO E C
  exact .d<|.rb Tryz.func127 Tryz.results127 cx ⟨⟨((⟨2,0,bv,([]:List Tag),(⟨0,0⟩:Row)⟩:Evt):Evt),⟨_,rfl,⟨_,_,_,rfl,(RepS.Ag _ _ none 0 (by decide))⟩⟩,(by exact ⟨NmD.nil,by simp [E4]⟩)⟩,cY,by omega,aO,C⟩
 refine .r 1<|.d<|.cf<|.g<|.eq bu 1 (fun cz=>?_) (fun cz=>?_)
 ·refine .r 1<|.d<|.ct<|.s<|.g<|.ns 5 3 [vI 2,vI 2,vI 2,vI 0,vI 1] fun aJ cA aR bE cB cC=>?_
  have dX:=AS aR aa.lt
  replace ⟨hD,aa,E,J,C⟩:=(sn [W,O,b] bE aR).g5 hD aa E J C
  have al:Own (α:=Int) cA aJ 3 (nin (ge w.heap.size) [aJ,W,O,b]) 5 5 [2,2,2,0,1]:=Own.lit cB rfl (by decide) ⟨rfl,rfl,rfl,rfl,rfl,rfl⟩
  refine .r 1<|.cl (AZ 5 aa (hD.BB AG) AB (w:=cA) (F:=all)) ?_
  rintro dY cD ⟨⟨ag,rfl,cZ⟩,cE,c8,am,aS⟩
  replace ⟨hD,E,J,al,C⟩:=(so [aJ,W,O,b] aS).g5 hD E J al C
  have bL:(ag).toNat< 5:=AB
  refine RG.idx (b:=aJ) (o:=0) ((ag).toNat) (len:=5) (i:=ag) (sz:=1) AA AB bL rfl ?_
  obtain ⟨aB,ao⟩:∃ y,([2,2,2,0,1]:List Int)[(ag).toNat]? = some y:=⟨_,AP AB⟩
  have c9:=AX ao; have aT:=AQ ao
  simp only [List.mem_cons,List.not_mem_nil,or_false] at aT
  obtain ⟨_,rfl,aq⟩:=al.elem ((ag).toNat) aB ao
  replace aq:Has cD ⟨aJ,0+((ag).toNat) * Rep.sz Int,none⟩ [vI aB]:=by rw [Nat.zero_add]; exact aq
  refine .lh 0 aq<|.r 1<|.sc [vI 2,vI 0,vI aB,.slice none 0 0,vI 0,vI 0] J fun dZ aU bM bN=>?_
  replace ⟨hD,am,E,C⟩:=(so [aJ,W,O,b] aU).g4 hD am E C
  exact .d<|.rb Tryz.func127 Tryz.results127 bM ⟨⟨((⟨2,0,aB,([]:List Tag),(⟨0,0⟩:Row)⟩:Evt):Evt),⟨_,rfl,⟨_,_,_,rfl,(RepS.Ag _ _ none 0 (by decide))⟩⟩,(by exact ⟨NmD.nil,by simp [E4]⟩)⟩,cE,by omega,am,C⟩
 refine .r 1<|.d<|.cf<|.s<|.g<|.eq bu 2 (fun bO=>?_) (fun bO=>?_)
 ·refine .r 1<|.d<|.ct<|.s<|.g<|.r 2<|.lb E<|.r 1<|.bp ((w_.disk.list.length:Int) > 1) (fun bP=>?_) (fun bP=>?_)
  ·refine .d<|.ct<|.s<|.g<|.r 3<|.lb E<|.r 1<|.it ((w_.disk.list.length:Int) - 1)<|.cl (AZ ((w_.disk.list.length:Int) - 1) aa (hD.BB AF) AB (w:=aG) (F:=all)) ?_
   rintro d0 d3 ⟨⟨bF,rfl,da⟩,d4,db,aj,aV⟩
   replace ⟨hD,E,J,C⟩:=(so [W,O,b] aV).g4 hD E J C
   refine .ns 6 3 [vI 4,vI 4,vI 0,vI 1,vI 2,vI 3] fun ah bG ar aW bQ bR=>?_
   have de:=AS ar aj.lt
   replace ⟨hD,aj,E,J,C⟩:=(sn [W,O,b] aW ar).g5 hD aj E J C
   have au:Own (α:=Int) bG ah 3 (nin (ge w.heap.size) [ah,W,O,b]) 6 6 [4,4,0,1,2,3]:=Own.lit bQ rfl (by decide) ⟨rfl,rfl,rfl,rfl,rfl,rfl,rfl⟩
   refine .r 1<|.cl (AZ 6 aj (hD.BB AG) AB (w:=bG) (F:=all)) ?_
   rintro d5 cF ⟨⟨ai,rfl,df⟩,cG,dg,av,aX⟩
   replace ⟨hD,E,J,au,C⟩:=(so [ah,W,O,b] aX).g5 hD E J au C
   have bS:(ai).toNat< 6:=AB
   refine RG.idx (b:=ah) (o:=0) ((ai).toNat) (len:=6) (i:=ai) (sz:=1) AA AB bS rfl ?_
   obtain ⟨aC,aw⟩:∃ y,([4,4,0,1,2,3]:List Int)[(ai).toNat]? = some y:=⟨_,AP AB⟩
   have dh:=AX aw; have aY:=AQ aw
   simp only [List.mem_cons,List.not_mem_nil,or_false] at aY
   obtain ⟨_,rfl,ax⟩:=au.elem ((ai).toNat) aC aw
   replace ax:Has cF ⟨ah,0+((ai).toNat) * Rep.sz Int,none⟩ [vI aC]:=by rw [Nat.zero_add]; exact ax
   refine .lh 0 ax<|.r 1<|.sc [vI 3,vI bF,vI aC,.slice none 0 0,vI 0,vI 0] J fun d6 aZ bT bU=>?_
   replace ⟨hD,av,E,C⟩:=(so [ah,W,O,b] aZ).g4 hD av E C
   exact .d<|.rb Tryz.func127 Tryz.results127 bT ⟨⟨((⟨3,bF,aC,([]:List Tag),(⟨0,0⟩:Row)⟩:Evt):Evt),⟨_,rfl,⟨_,_,_,rfl,(RepS.Ag _ _ none 0 (by decide))⟩⟩,(by exact ⟨NmD.nil,by simp [E4]⟩)⟩,cG,by omega,av,C⟩
  refine .d<|.cf<|.sk<|.ib 0<|.s<|.g<|.r 1<|.cl (Ed aa (hD.BB AF) AB (w:=aG) (F:=all)) ?_
  rintro d7 cH ⟨⟨bH,⟨cI,cJ,rfl,ab⟩,dj⟩,d8,dm,bV,ba⟩
  have bc:=al3 J.lt E.lt aa.lt
  have bW:Gb w.heap.size aG.heap.size:=C.size
  replace ⟨hD,E,J,C⟩:=(so [W,O,b] ba).g4 hD E J C
  have ab:=ab.fr bc bW
  have dp:=ab.max
  refine .r 1<|.cl (EU bV (hD.BB AF) AB (w:=cH) (F:=all)) ?_
  rintro d9 ec ⟨⟨aD,⟨_,rfl,rfl⟩,dq⟩,cK,dr,ay,bd⟩
  replace ⟨hD,E,J,ab,C⟩:=(so [W,O,b] bd).g5 hD E J ab C
  refine .r 1<|.sc [vI 1,vI 0,vI 0,.slice cI bH.length cJ,vI aD.t,vI aD.v] J fun ed bg bX bY=>?_
  replace ⟨hD,ay,E,ab,C⟩:=(so [W,O,b] bg).g5 hD ay E ab C
  exact .d<|.rb Tryz.func127 Tryz.results127 bX ⟨⟨((⟨1,0,0,bH,(⟨aD.t,aD.v⟩:Row)⟩:Evt):Evt),⟨_,rfl,⟨_,_,_,rfl,ab.w1⟩⟩,(by exact ⟨by assumption,by assumption⟩)⟩,cK,by omega,ay,C⟩
 refine .r 1<|.d<|.cf<|.s<|.g<|.eq bu 3 (fun bZ=>?_) (fun bZ=>?_)
 ·refine .r 1<|.d<|.ct<|.s<|.g<|.r 1<|.cl (AZ 4 aa (hD.BB AF) AB (w:=aG) (F:=all)) ?_
  rintro ee bI ⟨⟨cL,rfl,dt⟩,cM,du,af,bh⟩
  replace ⟨hD,E,J,C⟩:=(so [W,O,b] bh).g4 hD E J C
  refine .eq cL 0 (fun b0=>?_) (fun b0=>?_)
  ·refine .d<|.ct<|.s<|.g<|.r 1<|.sc [vI 4,vI 0,vI 0,.slice none 0 0,vI 0,vI 0] J fun ef bi b6 b7=>?_
   replace ⟨hD,af,E,C⟩:=(so [W,O,b] bi).g4 hD af E C
   exact .d<|.rb Tryz.func127 Tryz.results127 b6 ⟨⟨((⟨4,0,0,([]:List Tag),(⟨0,0⟩:Row)⟩:Evt):Evt),⟨_,rfl,⟨_,_,_,rfl,(RepS.Ag _ _ none 0 (by decide))⟩⟩,(by exact ⟨NmD.nil,by simp [E4]⟩)⟩,cM,by omega,af,C⟩
  refine .d<|.cf<|.sk<|.ib 0<|.s<|.g<|.r 1<|.cl (Ed af (hD.BB AF) AB (w:=bI) (F:=all)) ?_
  rintro eg cN ⟨⟨bJ,⟨cO,cP,rfl,ac⟩,dv⟩,eh,dw,b8,bj⟩
  have bk:=al3 J.lt E.lt af.lt
  have b9:Gb w.heap.size bI.heap.size:=C.size
  replace ⟨hD,E,J,C⟩:=(so [W,O,b] bj).g4 hD E J C
  have ac:=ac.fr bk b9
  have dx:=ac.max
  refine .r 1<|.cl (EU b8 (hD.BB AF) AB (w:=cN) (F:=all)) ?_
  rintro ej ek ⟨⟨aE,⟨_,rfl,rfl⟩,dy⟩,cQ,dz,az,bm⟩
  replace ⟨hD,E,J,ac,C⟩:=(so [W,O,b] bm).g5 hD E J ac C
  refine .r 1<|.sc [vI 1,vI 0,vI 0,.slice cO bJ.length cP,vI aE.t,vI aE.v] J fun en bn ce cg=>?_
  replace ⟨hD,az,E,ac,C⟩:=(so [W,O,b] bn).g5 hD az E ac C
  exact .d<|.rb Tryz.func127 Tryz.results127 ce ⟨⟨((⟨1,0,0,bJ,(⟨aE.t,aE.v⟩:Row)⟩:Evt):Evt),⟨_,rfl,⟨_,_,_,rfl,ac.w1⟩⟩,(by exact ⟨by assumption,by assumption⟩)⟩,cQ,by omega,az,C⟩
 refine .r 1<|.d<|.cf<|.sk<|.ib 0<|.s<|.g<|.r 1<|.cl (Ed aa (hD.BB AF) AB (w:=aG) (F:=all)) ?_
 rintro et cR ⟨⟨bK,⟨cS,cT,rfl,ae⟩,dA⟩,ey,dB,ci,bo⟩
 have bq:=al3 J.lt E.lt aa.lt
 have cj:Gb w.heap.size aG.heap.size:=C.size
 replace ⟨hD,J,C⟩:=(so [W,O,b] bo).g3 hD J C
 have ae:=ae.fr bq cj
 have dC:=ae.max
 refine .r 1<|.cl (EU ci (hD.BB AF) AB (w:=cR) (F:=all)) ?_
 rintro ez eA ⟨⟨aF,⟨_,rfl,rfl⟩,dD⟩,cU,dE,aA,br⟩
 replace ⟨hD,J,ae,C⟩:=(so [W,O,b] br).g4 hD J ae C
 refine .r 1<|.sc [vI 1,vI 0,vI 0,.slice cS bK.length cT,vI aF.t,vI aF.v] J fun eB bt ck cm=>?_
 replace ⟨hD,aA,ae,C⟩:=(so [W,O,b] bt).g4 hD aA ae C
 exact .d<|.rb Tryz.func127 Tryz.results127 ck ⟨⟨((⟨1,0,0,bK,(⟨aF.t,aF.v⟩:Row)⟩:Evt):Evt),⟨_,rfl,⟨_,_,_,rfl,ae.w1⟩⟩,(by exact ⟨by assumption,by assumption⟩)⟩,cU,by omega,aA,C⟩
theorem KF  {w:World} {F:Nat→Prop} {b:Nat} {ad:Option Addr} {cd p:Nat} {D:List UInt8} (hr:Box w b 122 [.slice ad D.length cd,.int .i64 (p:Int)]) (hD:RepS w (nin all [b]) ad D.length cd D) (hp:p+3000≤1000000000)  : Calls Tryz.prog 85 [.pointer (some ⟨b,0,none⟩)].toArray w (As fun rv w'=>(∃ (y:Wld),(∃ v0 v1,rv=.tuple #[v0,v1]∧True∧(∃ (a0:Option Addr) (n0 c0:Nat) (a1:Option Addr) (n1 c1:Nat) (a2:Option Addr) (n2 c2:Nat) (r3 n3 c3:Nat) (r4 n4 c4:Nat) (r5 n5 c5:Nat) (r6 n6 c6:Nat),v1=.agg #[.slice a0 n0 c0,.slice a1 n1 c1,.slice a2 n2 c2,.slice (some ⟨r3,0,none⟩) n3 c3,.slice (some ⟨r4,0,none⟩) n4 c4,.slice (some ⟨r5,0,none⟩) n5 c5,.slice (some ⟨r6,0,none⟩) n6 c6,.int .i64 (y.disk.next)]∧RepS w' (nin (ge w.heap.size) [r3,r4,r5,r6]) a0 n0 c0 (y.store.idx.names)∧RepS w' (nin (ge w.heap.size) [r3,r4,r5,r6]) a1 n1 c1 (y.store.idx.AV)∧RepS w' (nin (ge w.heap.size) [r3,r4,r5,r6]) a2 n2 c2 (y.store.parts)∧Own w' r3 107 (nin (ge w.heap.size) [r3,r4,r5,r6]) n3 c3 (y.store.mem)∧w.heap.size≤r3∧Own w' r4 66 (nin (ge w.heap.size) [r3,r4,r5,r6]) n4 c4 (y.disk.files)∧w.heap.size≤r4∧Nb r4 r3∧Own w' r5 3 (nin (ge w.heap.size) [r3,r4,r5,r6]) n5 c5 (y.disk.list)∧w.heap.size≤r5∧Nb r5 r3∧Nb r5 r4∧Own w' r6 77 (nin (ge w.heap.size) [r3,r4,r5,r6]) n6 c6 (y.disk.names)∧w.heap.size≤r6∧Nb r6 r3∧Nb r6 r4∧Nb r6 r5))∧(WD y))∧∃ p':Nat,p'≤p+3000∧Box w' b 122 [.slice ad D.length cd,.int .i64 (p':Int)]∧Chg (one b) w w'):=by
 refine goT Tryz.func85 ?_
 have fR:=hD.max
 refine .s<|.g<|.r 1<|.np 70 [.slice none 0 0,.slice none 0 0,.slice none 0 0,.slice none 0 0,.slice none 0 0,.slice none 0 0,.slice none 0 0,vI 0] fun O cR bP bS E dL=>?_
 have fS:=AS bP hr.lt
 have fT:Cov (one b) w O:=Bc bP (Nat.le_refl _)
 replace ⟨hD,hr⟩:=(sn [b] bS bP).g2 hD hr
 have C:Chg (one b) w cR:=Chg.Cc (Chg.refl (one b) w) bS
 refine .d<|.s<|.g<|.cl (JT (w:=cR) (F:=all)) ?_
 rintro gz gA ⟨⟨_,rfl,⟨dM,gC,dN,dO,gD,dP,dQ,gE,dR,dS,gF,dT,dU,gG,dV,dW,gH,dX,dY,gI,dZ,rfl,bd,bg,bh,bi,bj,bk,bm⟩⟩,b6⟩
 have bn:=al2 E.lt hr.lt
 have bq:Gb w.heap.size cR.heap.size:=C.size
 replace ⟨hD,hr,E,C⟩:=(se [O,b] b6).g4 hD hr E C
 have bd:=bd.fr bn bq
 have fU:=bd.max
 have bg:=bg.fr bn bq
 have fV:=bg.max
 have bh:=bh.fr bn bq
 have fW:=bh.max
 have bi:=bi.fr bn bq
 have fX:=bi.max
 have bj:=bj.fr bn bq
 have fY:=bj.max
 have bk:=bk.fr bn bq
 have fZ:=bk.max
 have bm:=bm.fr bn bq
 have f0:=bm.max
 have d0:=bd.len
 subst d0
 have d3:=bg.len
 subst d3
 have d4:=bh.len
 subst d4
 have d5:=bi.len
 subst d5
 have d6:=bj.len
 subst d6
 have d7:=bk.len
 subst d7
 have d8:=bm.len
 subst d8
 refine .np 70 [.slice none 0 0,.slice none 0 0,.slice none 0 0,.slice none 0 0,.slice none 0 0,.slice none 0 0,.slice none 0 0,vI 0] fun J gJ bF b7 d9 ec=>?_
 have f5:=AS bF hr.lt
 have f6:=AS bF E.lt
 have f7:=C.cn bF
 replace ⟨hD,hr,E,bd,bg,bh,bi,bj,bk,bm,C⟩:=(sn [O,b] b7 bF).g11 hD hr E bd bg bh bi bj bk bm C
 refine .sc [.slice dM ((((((⟨⟨⟨[],[]⟩,[],[]⟩,⟨[],[],[],1⟩⟩:Wld)).store).idx).names).length) dN,.slice dO ((((((⟨⟨⟨[],[]⟩,[],[]⟩,⟨[],[],[],1⟩⟩:Wld)).store).idx).AV).length) dP,.slice dQ (((((⟨⟨⟨[],[]⟩,[],[]⟩,⟨[],[],[],1⟩⟩:Wld)).store).parts).length) dR,.slice dS (((((⟨⟨⟨[],[]⟩,[],[]⟩,⟨[],[],[],1⟩⟩:Wld)).store).mem).length) dT,.slice dU (((((⟨⟨⟨[],[]⟩,[],[]⟩,⟨[],[],[],1⟩⟩:Wld)).disk).files).length) dV,.slice dW (((((⟨⟨⟨[],[]⟩,[],[]⟩,⟨[],[],[],1⟩⟩:Wld)).disk).list).length) dX,.slice dY (((((⟨⟨⟨[],[]⟩,[],[]⟩,⟨[],[],[],1⟩⟩:Wld)).disk).names).length) dZ,vI ((((⟨⟨⟨[],[]⟩,[],[]⟩,⟨[],[],[],1⟩⟩:Wld)).disk).next)] d9 fun gK b8 br ed=>?_
 replace ⟨hD,hr,E,bd,bg,bh,bi,bj,bk,bm,C⟩:=(so [J,O,b] b8).g11 hD hr E bd bg bh bi bj bk bm C
 refine .d<|.s<|.g<|.ns 0 114 [] fun bt ee bz b9 ef eg=>?_
 have eh:=AS bz hr.lt
 have ej:=AS bz E.lt
 have ek:=AS bz br.lt
 have en:=C.cn bz
 replace ⟨hD,hr,E,bd,bg,bh,bi,bj,bk,bm,br,C⟩:=(sn [J,O,b] b9 bz).g12 hD hr E bd bg bh bi bj bk bm br C
 have bG:Own (α:=Evt) ee bt 114 (nin (ge w.heap.size) [bt,J,O,b]) 0 0 []:=Own.Ag ef
 refine .r 1<|.d<|.s<|.s<|.g<|.r 1<|.cl (AZ 46 hr (hD.BB AG) AB (w:=ee) (F:=all)) ?_
 rintro f8 bA ⟨⟨et,rfl,eB⟩,ey,eC,bT,bU⟩
 replace ⟨hD,E,bd,bg,bh,bi,bj,bk,bm,br,bG,C⟩:=(so [bt,J,O,b] bU).g12 hD E bd bg bh bi bj bk bm br bG C
 refine .r 1<|.d<|.b 0<|T.loop (X:=(List Evt) × Nat × Nat × Nat × Int × Nat × (List (List Tag)) × (Option Addr) × Nat × Nat × (List Pst) × (Option Addr) × Nat × Nat × (List Prt) × (Option Addr) × Nat × Nat × (List Smp) × (Option Addr) × Nat × Nat × (List Fil) × (Option Addr) × Nat × Nat × (List Int) × (Option Addr) × Nat × Nat × (List (List Tag)) × (Option Addr) × Nat × Nat × Int) (([]:List Evt),bt,0,0,et,ey,(((((⟨⟨⟨[],[]⟩,[],[]⟩,⟨[],[],[],1⟩⟩:Wld)).store).idx).names:List (List Tag)),dM,(((((⟨⟨⟨[],[]⟩,[],[]⟩,⟨[],[],[],1⟩⟩:Wld)).store).idx).names).length,dN,(((((⟨⟨⟨[],[]⟩,[],[]⟩,⟨[],[],[],1⟩⟩:Wld)).store).idx).AV:List Pst),dO,(((((⟨⟨⟨[],[]⟩,[],[]⟩,⟨[],[],[],1⟩⟩:Wld)).store).idx).AV).length,dP,((((⟨⟨⟨[],[]⟩,[],[]⟩,⟨[],[],[],1⟩⟩:Wld)).store).parts:List Prt),dQ,((((⟨⟨⟨[],[]⟩,[],[]⟩,⟨[],[],[],1⟩⟩:Wld)).store).parts).length,dR,((((⟨⟨⟨[],[]⟩,[],[]⟩,⟨[],[],[],1⟩⟩:Wld)).store).mem:List Smp),dS,((((⟨⟨⟨[],[]⟩,[],[]⟩,⟨[],[],[],1⟩⟩:Wld)).store).mem).length,dT,((((⟨⟨⟨[],[]⟩,[],[]⟩,⟨[],[],[],1⟩⟩:Wld)).disk).files:List Fil),dU,((((⟨⟨⟨[],[]⟩,[],[]⟩,⟨[],[],[],1⟩⟩:Wld)).disk).files).length,dV,((((⟨⟨⟨[],[]⟩,[],[]⟩,⟨[],[],[],1⟩⟩:Wld)).disk).list:List Int),dW,((((⟨⟨⟨[],[]⟩,[],[]⟩,⟨[],[],[],1⟩⟩:Wld)).disk).list).length,dX,((((⟨⟨⟨[],[]⟩,[],[]⟩,⟨[],[],[],1⟩⟩:Wld)).disk).names:List (List Tag)),dY,((((⟨⟨⟨[],[]⟩,[],[]⟩,⟨[],[],[],1⟩⟩:Wld)).disk).names).length,dZ,(((⟨⟨⟨[],[]⟩,[],[]⟩,⟨[],[],[],1⟩⟩:Wld)).disk).next) (fun (events,r_events,n_events,c_events,n,p_,aa,a_w_0,n_w_0,c_w_0,ab,a_w_1,n_w_1,c_w_1,ac,a_w_2,n_w_2,c_w_2,ae,a_w_3,n_w_3,c_w_3,af,a_w_4,n_w_4,c_w_4,ag,a_w_5,n_w_5,c_w_5,ah,a_w_6,n_w_6,c_w_6,ai)=>[(0,.pointer (some ⟨b,0,none⟩)),(3,.pointer (some ⟨O,0,none⟩)),(4,.pointer (some ⟨J,0,none⟩)),(5,vS r_events n_events c_events),(6,vI n)]) (fun (events,r_events,n_events,c_events,n,p_,aa,a_w_0,n_w_0,c_w_0,ab,a_w_1,n_w_1,c_w_1,ac,a_w_2,n_w_2,c_w_2,ae,a_w_3,n_w_3,c_w_3,af,a_w_4,n_w_4,c_w_4,ag,a_w_5,n_w_5,c_w_5,ah,a_w_6,n_w_6,c_w_6,ai) az=>Chg (ins [bt,b,J]) bA az∧Own az r_events 114 (nin (ge w.heap.size) [r_events,J,O,b]) n_events c_events events∧OrB r_events bt bA.heap.size∧RepS az (nin (ge w.heap.size) [r_events,J,O,b]) a_w_0 n_w_0 c_w_0 aa∧RepS az (nin (ge w.heap.size) [r_events,J,O,b]) a_w_1 n_w_1 c_w_1 ab∧RepS az (nin (ge w.heap.size) [r_events,J,O,b]) a_w_2 n_w_2 c_w_2 ac∧RepS az (nin (ge w.heap.size) [r_events,J,O,b]) a_w_3 n_w_3 c_w_3 ae∧RepS az (nin (ge w.heap.size) [r_events,J,O,b]) a_w_4 n_w_4 c_w_4 af∧RepS az (nin (ge w.heap.size) [r_events,J,O,b]) a_w_5 n_w_5 c_w_5 ag∧RepS az (nin (ge w.heap.size) [r_events,J,O,b]) a_w_6 n_w_6 c_w_6 ah∧Box az b 122 [.slice ad D.length cd,vI (p_:Int)]∧Box az J 70 [.slice a_w_0 n_w_0 c_w_0,.slice a_w_1 n_w_1 c_w_1,.slice a_w_2 n_w_2 c_w_2,.slice a_w_3 n_w_3 c_w_3,.slice a_w_4 n_w_4 c_w_4,.slice a_w_5 n_w_5 c_w_5,.slice a_w_6 n_w_6 c_w_6,vI ai]∧(n≤46)∧((events.length:Int)+n≤46∨n< 0)∧((p_:Int)+61 * n≤p+2900∨n< 0)∧(p_≤p+2900)∧(WD ⟨⟨⟨aa,ab⟩,ac,ae⟩,⟨af,ag,ah,ai⟩⟩)) (fun (events,r_events,n_events,c_events,n,p_,aa,a_w_0,n_w_0,c_w_0,ab,a_w_1,n_w_1,c_w_1,ac,a_w_2,n_w_2,c_w_2,ae,a_w_3,n_w_3,c_w_3,af,a_w_4,n_w_4,c_w_4,ag,a_w_5,n_w_5,c_w_5,ah,a_w_6,n_w_6,c_w_6,ai)=>n.toNat) AA ⟨AA,AA,AA,AA,AA,trivial⟩ ⟨Chg.refl _ _,bG,BJ,bd,bg,bh,bi,bj,bk,bm,bT,br,AB,(by (simp; omega)),AB,AB,(by exact WD.new)⟩ ?_
 rintro ⟨events,r_events,n_events,c_events,n,p_,aa,a_w_0,n_w_0,c_w_0,ab,a_w_1,n_w_1,c_w_1,ac,a_w_2,n_w_2,c_w_2,ae,a_w_3,n_w_3,c_w_3,af,a_w_4,n_w_4,c_w_4,ag,a_w_5,n_w_5,c_w_5,ah,a_w_6,n_w_6,c_w_6,ai⟩ f9 az ⟨av,ax,aM,ak,al,am,ao,aq,ar,au,aI,aj,eD,eE,eF,eG,eH⟩ bQ
 have eI:=Aw aM eh bT.lt
 have eJ:=Aw aM ej E.lt
 have cS:=Aw aM ek br.lt
 have eK:=Ar aM en C.size
 have cT:Cov (ins [bt,b,J]) bA bt:=⟨.inl AD⟩
 have eL:Cov (ins [bt,b,J]) bA b:=⟨.inl AE⟩
 have eM:Cov (ins [bt,b,J]) bA J:=⟨.inl AF⟩
 have eN:=Ar aM cT (Nat.le_refl _)
 have bV:Mv [bt,J,O,b] [r_events,J,O,b] bA az:=Mv.inl av (all_cons AD (all_cons AG (all_cons AE all_nil))) (all_cons (BV aM AD) (all_cons (.inl AE) (all_cons (.inl AF) (all_cons (.inl AG) all_nil))))
 replace ⟨hD,E,C⟩:=(sp bV av).g3 hD E C
 have eO:=ax.len; have eP:=ax.max
 have eQ:=ak.len; have eR:=ak.max
 have eS:=al.len; have eT:=al.max
 have eU:=am.len; have eV:=am.max
 have eW:=ao.len; have eX:=ao.max
 have eY:=aq.len; have eZ:=aq.max
 have e7:=ar.len; have e8:=ar.max
 have fa:=au.len; have fb:=au.max
 refine .s<|.s<|.g<|.r 1<|.bp (n > 0) (fun cU=>?_) (fun cU=>?_)
 ·refine .d<|.ct<|.sk<|.s<|.b 1<|.s<|.g<|.r 1<|.ln aj<|.cl (JX (⟨(⟨(⟨aa,ab⟩:Idx),ac,ae⟩:Sto),(⟨af,ag,ah,ai⟩:Dsk)⟩:Wld) aI (hD.BB AG) AB (ak.BB AG) (al.BB AG) (am.BB AG) (ao.BB AG) (aq.BB AG) (ar.BB AG) (au.BB AG) (by have q1:WD ⟨⟨⟨aa,ab⟩,ac,ae⟩,⟨af,ag,ah,ai⟩⟩:=‹_›; have q2:=q1.wi.dsk.nl; dsimp only at q2 ⊢; omega) (w:=az) (F:=all)) ?_
  rintro ga gb ⟨⟨W,⟨_,rfl,⟨ce,gf,cg,rfl,aC⟩⟩,fc⟩,ez,fd,aw,bH⟩
  have bW:=al4 ax.lt aj.lt E.lt aI.lt
  have cV:Gb w.heap.size az.heap.size:=C.size
  replace ⟨hD,E,aj,ax,ak,al,am,ao,aq,ar,au,C⟩:=(so [r_events,J,O,b] bH).g12 hD E aj ax ak al am ao aq ar au C
  replace av:=(so [r_events,J,O,b] bH).g1 av
  have aC:=aC.fr bW cV
  have fe:=aC.max
  have cW:=aC.len
  subst cW
  refine .np 114 [vI 0,vI 0,vI 0,.slice none 0 0,vI 0,vI 0] fun ay gh aD bI cX cY=>?_
  have ff:=AS aD aw.lt
  have fg:=AS aD E.lt
  have fh:=AS aD aj.lt
  have fi:=AS aD ax.lt
  have fj:=C.cn aD
  have fk:=av.cn aD
  replace ⟨hD,aw,E,aj,ax,ak,al,am,ao,aq,ar,au⟩:=(sn [r_events,J,O,b] bI aD).g12 hD aw E aj ax ak al am ao aq ar au
  replace ⟨aC,C,av⟩:=(sn [r_events,J,O,b] bI aD).g3 aC C av
  refine .sc [vI W.kind,vI W.at_,vI W.cut,.slice ce W.name.length cg,vI W.row.t,vI W.row.v] cX fun gi bJ aJ cZ=>?_
  replace ⟨hD,aw,E,aj,ax,ak,al,am,ao,aq,ar,au⟩:=(so [ay,r_events,J,O,b] bJ).g12 hD aw E aj ax ak al am ao aq ar au
  replace ⟨aC,C,av⟩:=(so [ay,r_events,J,O,b] bJ).g3 aC C av
  refine .d<|.s<|.g<|.r 1<|.ln aJ<|.ns 1 114 [vI W.kind,vI W.at_,vI W.cut,.slice ce W.name.length cg,vI W.row.t,vI W.row.v] fun ci gj aN bK c7 c8=>?_
  have c9:=AS aN aw.lt
  have da:=AS aN E.lt
  have db:=AS aN aj.lt
  have bX:=AS aN ax.lt
  have de:=AS aN aJ.lt
  have df:=Ad aN C.size
  replace ⟨hD,aw,E,aj,ax,ak,al,am,ao,aq,ar,au⟩:=(se [ay,r_events,J,O,b] bK).g12 hD aw E aj ax ak al am ao aq ar au
  replace ⟨aC,aJ,C,av⟩:=(se [ay,r_events,J,O,b] bK).g4 aC aJ C av
  have bR:nin (ge w.heap.size) [ay,r_events,J,O,b] ci∧ci≠r_events:=BG df (all_cons de (all_cons bX (all_cons db (all_cons da (all_cons c9 all_nil))))) bX
  refine RG.Ap (T:=71) (ty:=71) (y:=W) ax c7 AA AA ⟨_,_,_,rfl,aC.oi⟩ bR AB fun aB eA cj aA aU bL=>?_
  have fm:=Ae aU cS aj.lt
  have dg:=Bo aU aM av.size
  replace ⟨hD,aw,E,aj,ak,al,am,ao,aq,ar,au,aC⟩:=(sa [ay,r_events,J,O,b] bL aU).g12 hD aw E aj ak al am ao aq ar au aC
  replace ⟨aJ,C,av⟩:=(sa [ay,r_events,J,O,b] bL aU).g3 aJ C av
  replace aA:=aA.rn r_events
  have fp:=aA.len; have fq:=aA.max
  refine .r 1<|.d<|.g<|.ln aj<|.ln aJ<|.cl (Lw (⟨(⟨(⟨aa,ab⟩:Idx),ac,ae⟩:Sto),(⟨af,ag,ah,ai⟩:Dsk)⟩:Wld) W ak al am ao aq ar au aC (by assumption:WD _).wi (NmD.sz (by assumption:EvD _).1) (w:=cj) (F:=nin (ge w.heap.size) [ay,aB,J,O,b])) ?_
  rintro gk gl ⟨⟨_,rfl,⟨ck,gm,cm,co,gn,cp,cq,gp,cr,cu,gq,cv,cw,gr,cx,cy,gs,cz,cA,gt,cB,rfl,aV,aW,aX,aY,aZ,ba,bc⟩⟩,bM⟩
  have aK:=al5 aJ.lt aA.lt aj.lt E.lt aw.lt
  have aO:Gb w.heap.size cj.heap.size:=C.size
  replace ⟨hD,aw,E,aj,aA,ak,al,am,ao,aq,ar,au⟩:=(se [ay,aB,J,O,b] bM).g12 hD aw E aj aA ak al am ao aq ar au
  replace ⟨C,av⟩:=(se [ay,aB,J,O,b] bM).g2 C av
  replace aV:=RepS.HP (M:=[ay,aB,J,O,b]) aV aK (fun _ h=>Nat.le_trans aO h)
  have ft:=aV.max
  replace aW:=RepS.HP (M:=[ay,aB,J,O,b]) aW aK (fun _ h=>Nat.le_trans aO h)
  have fu:=aW.max
  replace aX:=RepS.HP (M:=[ay,aB,J,O,b]) aX aK (fun _ h=>Nat.le_trans aO h)
  have fv:=aX.max
  replace aY:=RepS.HP (M:=[ay,aB,J,O,b]) aY aK (fun _ h=>Nat.le_trans aO h)
  have fw:=aY.max
  replace aZ:=RepS.HP (M:=[ay,aB,J,O,b]) aZ aK (fun _ h=>Nat.le_trans aO h)
  have fz:=aZ.max
  replace ba:=RepS.HP (M:=[ay,aB,J,O,b]) ba aK (fun _ h=>Nat.le_trans aO h)
  have fA:=ba.max
  replace bc:=RepS.HP (M:=[ay,aB,J,O,b]) bc aK (fun _ h=>Nat.le_trans aO h)
  have fB:=bc.max
  have dh:=aV.len
  subst dh
  have dj:=aW.len
  subst dj
  have dm:=aX.len
  subst dm
  have dp:=aY.len
  subst dp
  have dq:=aZ.len
  subst dq
  have dr:=ba.len
  subst dr
  have dt:=bc.len
  subst dt
  refine .sc [.slice ck (((((doW (⟨(⟨(⟨aa,ab⟩:Idx),ac,ae⟩:Sto),(⟨af,ag,ah,ai⟩:Dsk)⟩:Wld) W).store).idx).names).length) cm,.slice co (((((doW (⟨(⟨(⟨aa,ab⟩:Idx),ac,ae⟩:Sto),(⟨af,ag,ah,ai⟩:Dsk)⟩:Wld) W).store).idx).AV).length) cp,.slice cq ((((doW (⟨(⟨(⟨aa,ab⟩:Idx),ac,ae⟩:Sto),(⟨af,ag,ah,ai⟩:Dsk)⟩:Wld) W).store).parts).length) cr,.slice cu ((((doW (⟨(⟨(⟨aa,ab⟩:Idx),ac,ae⟩:Sto),(⟨af,ag,ah,ai⟩:Dsk)⟩:Wld) W).store).mem).length) cv,.slice cw ((((doW (⟨(⟨(⟨aa,ab⟩:Idx),ac,ae⟩:Sto),(⟨af,ag,ah,ai⟩:Dsk)⟩:Wld) W).disk).files).length) cx,.slice cy ((((doW (⟨(⟨(⟨aa,ab⟩:Idx),ac,ae⟩:Sto),(⟨af,ag,ah,ai⟩:Dsk)⟩:Wld) W).disk).list).length) cz,.slice cA ((((doW (⟨(⟨(⟨aa,ab⟩:Idx),ac,ae⟩:Sto),(⟨af,ag,ah,ai⟩:Dsk)⟩:Wld) W).disk).names).length) cB,vI (((doW (⟨(⟨(⟨aa,ab⟩:Idx),ac,ae⟩:Sto),(⟨af,ag,ah,ai⟩:Dsk)⟩:Wld) W).disk).next)] aj fun cC bN du dv=>?_
  replace ⟨hD,aw,E,aA,ak,al,am,ao,aq,ar,au,aV⟩:=(so [ay,aB,J,O,b] bN).g12 hD aw E aA ak al am ao aq ar au aV
  replace ⟨aW,aX,aY,aZ,ba,bc,C,av⟩:=(so [ay,aB,J,O,b] bN).g8 aW aX aY aZ ba bc C av
  refine .d<|.ib 1<|.g<|.r 1<|.it (n - 1)<|.r 1<|.d ?_
  have bY:Mv [ay,aB,J,O,b] [aB,J,O,b] cC cC:=Mv.less (all_cons AE (all_cons AF (all_cons AG (all_cons AH all_nil))))
  replace ⟨hD,aA,ak,al,am,ao,aq,ar,au,aV,aW,aX⟩:=(sp bY (Chg.refl nil _)).g12 hD aA ak al am ao aq ar au aV aW aX
  replace ⟨aY,aZ,ba,bc⟩:=(sp bY (Chg.refl nil _)).g4 aY aZ ba bc
  exact bQ ((events++[W]),aB,n_events+1,eA,n - 1,ez,(((doW (⟨(⟨(⟨aa,ab⟩:Idx),ac,ae⟩:Sto),(⟨af,ag,ah,ai⟩:Dsk)⟩:Wld) W).store).idx).names,ck,((((doW (⟨(⟨(⟨aa,ab⟩:Idx),ac,ae⟩:Sto),(⟨af,ag,ah,ai⟩:Dsk)⟩:Wld) W).store).idx).names).length,cm,(((doW (⟨(⟨(⟨aa,ab⟩:Idx),ac,ae⟩:Sto),(⟨af,ag,ah,ai⟩:Dsk)⟩:Wld) W).store).idx).AV,co,((((doW (⟨(⟨(⟨aa,ab⟩:Idx),ac,ae⟩:Sto),(⟨af,ag,ah,ai⟩:Dsk)⟩:Wld) W).store).idx).AV).length,cp,((doW (⟨(⟨(⟨aa,ab⟩:Idx),ac,ae⟩:Sto),(⟨af,ag,ah,ai⟩:Dsk)⟩:Wld) W).store).parts,cq,(((doW (⟨(⟨(⟨aa,ab⟩:Idx),ac,ae⟩:Sto),(⟨af,ag,ah,ai⟩:Dsk)⟩:Wld) W).store).parts).length,cr,((doW (⟨(⟨(⟨aa,ab⟩:Idx),ac,ae⟩:Sto),(⟨af,ag,ah,ai⟩:Dsk)⟩:Wld) W).store).mem,cu,(((doW (⟨(⟨(⟨aa,ab⟩:Idx),ac,ae⟩:Sto),(⟨af,ag,ah,ai⟩:Dsk)⟩:Wld) W).store).mem).length,cv,((doW (⟨(⟨(⟨aa,ab⟩:Idx),ac,ae⟩:Sto),(⟨af,ag,ah,ai⟩:Dsk)⟩:Wld) W).disk).files,cw,(((doW (⟨(⟨(⟨aa,ab⟩:Idx),ac,ae⟩:Sto),(⟨af,ag,ah,ai⟩:Dsk)⟩:Wld) W).disk).files).length,cx,((doW (⟨(⟨(⟨aa,ab⟩:Idx),ac,ae⟩:Sto),(⟨af,ag,ah,ai⟩:Dsk)⟩:Wld) W).disk).list,cy,(((doW (⟨(⟨(⟨aa,ab⟩:Idx),ac,ae⟩:Sto),(⟨af,ag,ah,ai⟩:Dsk)⟩:Wld) W).disk).list).length,cz,((doW (⟨(⟨(⟨aa,ab⟩:Idx),ac,ae⟩:Sto),(⟨af,ag,ah,ai⟩:Dsk)⟩:Wld) W).disk).names,cA,(((doW (⟨(⟨(⟨aa,ab⟩:Idx),ac,ae⟩:Sto),(⟨af,ag,ah,ai⟩:Dsk)⟩:Wld) W).disk).names).length,cB,((doW (⟨(⟨(⟨aa,ab⟩:Idx),ac,ae⟩:Sto),(⟨af,ag,ah,ai⟩:Dsk)⟩:Wld) W).disk).next) _ _ ⟨AA,AA,AA,AA,AA,trivial⟩ ⟨av,aA,dg,aV,aW,aX,aY,aZ,ba,bc,aw,du,AB,AB,AB,AB,(by exact WD.do ‹_› (by assumption:EvD _).1)⟩ (by (simp only []; omega))
 refine .d<|.cf<|.x 0 rfl<|.s<|.g<|.r 1<|.ln aj<|.cl (KB (⟨(⟨(⟨aa,ab⟩:Idx),ac,ae⟩:Sto),(⟨af,ag,ah,ai⟩:Dsk)⟩:Wld) ak.ta al.ta am.ta ao.ta aq.ta ar.ta au.ta (by assumption:WD _).wi (w:=az) (F:=all)) ?_
 rintro gu bo ⟨⟨cD,gv,cE,cF,gw,cG,cH,gx,cI,aE,cJ,cK,aF,cL,cM,aG,cN,cO,aH,cP,cQ,rfl,bu,bv,bw,aP,bB,aQ,bC,dw,aR,bD,dx,dy,aS,bE,dz,dA,dB⟩,bO⟩
 have aL:=al4 ax.lt aj.lt E.lt aI.lt
 have aT:Gb w.heap.size az.heap.size:=C.size
 have fC:=Ab bB E.lt
 have dC:=Bd bB C.size
 have fD:=Ab bC E.lt
 have dD:=Bd bC C.size
 have fE:=Ab bD E.lt
 have dE:=Bd bD C.size
 have fF:=Ab bE E.lt
 have dF:=Bd bE C.size
 have bZ:Mv [r_events,J,O,b] [aE,aF,aG,aH,r_events,J,O,b] az bo:=Mv.cons (Mv.cons (Mv.cons (Mv.cons (Mv.ext bO) bE) bD) bC) bB
 replace ⟨hD,aI,E,C⟩:=(sp bZ bO).g4 hD aI E C
 replace bu:RepS bo (nin (ge w.heap.size) [aE,aF,aG,aH,r_events,J,O,b]) _ _ _ _:=RepS.BC (s0:=w.heap.size) (M:=[r_events,J,O,b]) bu aL aT
 have fG:=bu.max
 replace bv:RepS bo (nin (ge w.heap.size) [aE,aF,aG,aH,r_events,J,O,b]) _ _ _ _:=RepS.BC (s0:=w.heap.size) (M:=[r_events,J,O,b]) bv aL aT
 have fH:=bv.max
 replace bw:RepS bo (nin (ge w.heap.size) [aE,aF,aG,aH,r_events,J,O,b]) _ _ _ _:=RepS.BC (s0:=w.heap.size) (M:=[r_events,J,O,b]) bw aL aT
 have fI:=bw.max
 replace aP:Own bo aE 107 (nin (ge w.heap.size) [aE,aF,aG,aH,r_events,J,O,b]) _ _ _:=Own.BC (s0:=w.heap.size) (M:=[r_events,J,O,b]) aP aL aT
 have fJ:=aP.max
 have fK:=aP.len
 replace aQ:Own bo aF 66 (nin (ge w.heap.size) [aE,aF,aG,aH,r_events,J,O,b]) _ _ _:=Own.BC (s0:=w.heap.size) (M:=[r_events,J,O,b]) aQ aL aT
 have fL:=aQ.max
 have fM:=aQ.len
 replace aR:Own bo aG 3 (nin (ge w.heap.size) [aE,aF,aG,aH,r_events,J,O,b]) _ _ _:=Own.BC (s0:=w.heap.size) (M:=[r_events,J,O,b]) aR aL aT
 have fN:=aR.max
 have fO:=aR.len
 replace aS:Own bo aH 77 (nin (ge w.heap.size) [aE,aF,aG,aH,r_events,J,O,b]) _ _ _:=Own.BC (s0:=w.heap.size) (M:=[r_events,J,O,b]) aS aL aT
 have fP:=aS.max
 have fQ:=aS.len
 have dG:=bu.len
 subst dG
 have dH:=bv.len
 subst dH
 have dI:=bw.len
 subst dI
 refine .r 1<|.sc [.slice cD ((((((Cx (⟨(⟨(⟨aa,ab⟩:Idx),ac,ae⟩:Sto),(⟨af,ag,ah,ai⟩:Dsk)⟩:Wld))).store).idx).names).length) cE,.slice cF ((((((Cx (⟨(⟨(⟨aa,ab⟩:Idx),ac,ae⟩:Sto),(⟨af,ag,ah,ai⟩:Dsk)⟩:Wld))).store).idx).AV).length) cG,.slice cH (((((Cx (⟨(⟨(⟨aa,ab⟩:Idx),ac,ae⟩:Sto),(⟨af,ag,ah,ai⟩:Dsk)⟩:Wld))).store).parts).length) cI,vS aE cJ cK,vS aF cL cM,vS aG cN cO,vS aH cP cQ,vI ((((Cx (⟨(⟨(⟨aa,ab⟩:Idx),ac,ae⟩:Sto),(⟨af,ag,ah,ai⟩:Dsk)⟩:Wld))).disk).next)] E fun gy b0 dJ dK=>?_
 replace ⟨hD,aI,bu,bv,bw,aP,aQ,aR,aS,C⟩:=(so [aE,aF,aG,aH,r_events,J,O,b] b0).g10 hD aI bu bv bw aP aQ aR aS C
 exact .d<|.r2 Tryz.func85 Tryz.results85 (.t (vS r_events n_events c_events)) (.bx dJ) ⟨⟨((⟨(⟨(⟨((((Cx (⟨(⟨(⟨aa,ab⟩:Idx),ac,ae⟩:Sto),(⟨af,ag,ah,ai⟩:Dsk)⟩:Wld))).store).idx).names,((((Cx (⟨(⟨(⟨aa,ab⟩:Idx),ac,ae⟩:Sto),(⟨af,ag,ah,ai⟩:Dsk)⟩:Wld))).store).idx).AV⟩:Idx),(((Cx (⟨(⟨(⟨aa,ab⟩:Idx),ac,ae⟩:Sto),(⟨af,ag,ah,ai⟩:Dsk)⟩:Wld))).store).parts,(((Cx (⟨(⟨(⟨aa,ab⟩:Idx),ac,ae⟩:Sto),(⟨af,ag,ah,ai⟩:Dsk)⟩:Wld))).store).mem⟩:Sto),(⟨(((Cx (⟨(⟨(⟨aa,ab⟩:Idx),ac,ae⟩:Sto),(⟨af,ag,ah,ai⟩:Dsk)⟩:Wld))).disk).files,(((Cx (⟨(⟨(⟨aa,ab⟩:Idx),ac,ae⟩:Sto),(⟨af,ag,ah,ai⟩:Dsk)⟩:Wld))).disk).list,(((Cx (⟨(⟨(⟨aa,ab⟩:Idx),ac,ae⟩:Sto),(⟨af,ag,ah,ai⟩:Dsk)⟩:Wld))).disk).names,(((Cx (⟨(⟨(⟨aa,ab⟩:Idx),ac,ae⟩:Sto),(⟨af,ag,ah,ai⟩:Dsk)⟩:Wld))).disk).next⟩:Dsk)⟩:Wld):Wld),⟨_,_,(CS rfl rfl),trivial,⟨cD,(((((Cx (⟨(⟨(⟨aa,ab⟩:Idx),ac,ae⟩:Sto),(⟨af,ag,ah,ai⟩:Dsk)⟩:Wld))).store).idx).names).length,cE,cF,(((((Cx (⟨(⟨(⟨aa,ab⟩:Idx),ac,ae⟩:Sto),(⟨af,ag,ah,ai⟩:Dsk)⟩:Wld))).store).idx).AV).length,cG,cH,((((Cx (⟨(⟨(⟨aa,ab⟩:Idx),ac,ae⟩:Sto),(⟨af,ag,ah,ai⟩:Dsk)⟩:Wld))).store).parts).length,cI,aE,cJ,cK,aF,cL,cM,aG,cN,cO,aH,cP,cQ,rfl,((RepS.BI bu (all_cons AD (all_cons AE (all_cons AF (all_cons AG all_nil))))).eqx (by rfl)),((RepS.BI bv (all_cons AD (all_cons AE (all_cons AF (all_cons AG all_nil))))).eqx (by rfl)),((RepS.BI bw (all_cons AD (all_cons AE (all_cons AF (all_cons AG all_nil))))).eqx (by rfl)),((Own.BI aP (all_cons AD (all_cons AE (all_cons AF (all_cons AG all_nil))))).eqx (by rfl)),dC,((Own.BI aQ (all_cons AD (all_cons AE (all_cons AF (all_cons AG all_nil))))).eqx (by rfl)),dD,dw,((Own.BI aR (all_cons AD (all_cons AE (all_cons AF (all_cons AG all_nil))))).eqx (by rfl)),dE,dx,dy,((Own.BI aS (all_cons AD (all_cons AE (all_cons AF (all_cons AG all_nil))))).eqx (by rfl)),dF,dz,dA,dB⟩⟩,(by exact WD.copy ‹_›)⟩,p_,by omega,aI,C⟩
end Go.Proofs.YtganlmloonielaaGreat
namespace Go.Proofs.YtganlmloonielaaGreat
def Ei:List Tag:=(List.range' 97 4).flatMap (fun k=>(List.range' 112 11).map (JI k))
theorem PS (names:List (List Tag)) (k:Nat):∀ f v,Fv names k f v=((List.range' v f).map (JI k)).flatMap (Eh names):=by
 intro f
 induction f with
 | zero=>intro v; rfl
 | succ f ih=>intro v; rw [Fv,ih,List.range'_succ]; rfl
theorem PT (names:List (List Tag)):∀ f k,Fw names f k=((List.range' k f).flatMap (fun k=>(List.range' 112 11).map (JI k))).flatMap (Eh names):=by
 intro f
 induction f with
 | zero=>intro k; rfl
 | succ f ih=>intro k; rw [Fw,ih,PS,show List.range' k (f+1)=k::List.range' (k+1) f from rfl,List.flatMap_cons,List.flatMap_append]
theorem E5 (names:List (List Tag)):Ci names=Ei.flatMap (Eh names):=PT names 4 97
theorem Hw:Ei.Pairwise (fun a b=>DF a b=true):=by decide +kernel
theorem PU {t:Tag} (h:Bg t=true):t∈Ei:=by
 simp only [Bg,AR] at h
 obtain ⟨h1,h2⟩:=h
 obtain ⟨x,hx⟩:∃ x,t.key=[x]:=by
  have:=Dy h1
  match t.key,this with
  | [x],_=>exact ⟨x,rfl⟩
 obtain ⟨y,hy⟩:∃ y,t.val=[y]:=by
  have:=Dy h2
  match t.val,this with
  | [y],_=>exact ⟨y,rfl⟩
 rw [hx] at h1
 rw [hy] at h2
 have g1:=CN h1
 have g2:=CN h2
 unfold Ei
 refine List.mem_flatMap.2 ⟨x.toNat,?_,List.mem_map.2 ⟨y.toNat,?_,?_⟩⟩
 ·rw [List.mem_range'_1]; omega
 ·rw [List.mem_range'_1]; omega
 ·cases t
  simp only at hx hy
  subst hx hy
  simp [JI]
theorem EM {names:List (List Tag)} {p:Pst} (h:p∈Ci names):p.ids=ids names p.tag∧0< p.ids.length∧p.tag∈Ei:=by
 rw [E5] at h
 obtain ⟨t,ht,hp⟩:=List.mem_flatMap.1 h
 unfold Eh at hp
 split at hp
 ·simp at hp
  subst hp
  exact ⟨rfl,by assumption,ht⟩
 ·cases hp
theorem Qn {names:List (List Tag)} {t:Tag} (h:t∈Ei) (h2:0< (ids names t).length):⟨t,ids names t⟩∈Ci names:=by
 rw [E5]
 refine List.mem_flatMap.2 ⟨t,h,?_⟩
 unfold Eh
 rw [if_pos h2]
 simp
theorem Hx (names:List (List Tag)):(Ci names).Pairwise (fun a b=>DF a.tag b.tag=true):=by
 rw [E5,List.pairwise_flatMap]
 refine ⟨fun t _=>?_,Hw.imp ?_⟩
 ·unfold Eh
  split <;> simp
 ·intro a b hab x hx y hy
  have h1:x.tag=a:=by
   unfold Eh at hx
   split at hx
   ·simp at hx; rw [hx]
   ·cases hx
  have h2:y.tag=b:=by
   unfold Eh at hy
   split at hy
   ·simp at hy; rw [hy]
   ·cases hy
  rw [h1,h2]
  exact hab
def KG (names:List (List Tag)):Nat:=(names.map List.length).sum
def Mk (ps:List Pst):Nat:=(ps.map (fun p=>p.ids.length)).sum
theorem Qo (t:Tag):∀ (ns:List (List Tag)) (i:Nat),(FC t i ns).length=(ns.map (fun n=>if has n t then 1 else 0)).sum:=by
 intro ns
 induction ns with
 | nil=>intro i; rfl
 | cons n ns ih =>
   intro i
   rw [FC,List.length_append,ih,List.map_cons,List.sum_cons]
   split <;> simp_all
theorem Ml (names:List (List Tag)):Mk (Ci names)=(Ei.map (fun t=>(ids names t).length)).sum:=by
 rw [E5]
 generalize Ei=U
 induction U with
 | nil=>rfl
 | cons t ts ih =>
   rw [List.flatMap_cons]
   unfold Mk at ih ⊢
   rw [List.map_append,List.sum_append,ih,List.map_cons,List.sum_cons]
   congr 1
   unfold Eh
   split
   ·simp
   ·simp; omega
theorem KH {α:Type} (U:List α) (f:α→Nat) (h:∀ a∈U,f a=0):(U.map f).sum=0:=by
 induction U with
 | nil=>rfl
 | cons a U ih=>rw [List.map_cons,List.sum_cons,h a (by simp),ih (fun b hb=>h b (by simp [hb]))]
theorem Oi {α:Type} (U:List α) (f g:α→Nat):(U.map (fun a=>f a+g a)).sum=(U.map f).sum+(U.map g).sum:=by
 induction U with
 | nil=>rfl
 | cons a U ih=>simp only [List.map_cons,List.sum_cons,ih]; omega
theorem Sg {U:List Tag} (hU:U.Nodup) {t:Tag} (ht:t∈U):(U.map (fun u=>if t==u then 1 else 0)).sum=1:=by
 induction U with
 | nil=>cases ht
 | cons a U ih =>
   rw [List.map_cons,List.sum_cons]
   obtain ⟨h1,h2⟩:=List.nodup_cons.1 hU
   rcases List.mem_cons.1 ht with rfl | ht
   ·rw [KH U _ (fun b hb=>by
     have:¬ (t==b)=true:=fun e=>h1 (by rw [eq_of_beq e]; exact hb)
     simp only [this]; rfl)]
    simp
   ·have:¬ (t==a)=true:=fun e=>h1 (by rw [← eq_of_beq e]; exact ht)
    rw [ih h2 ht,if_neg this]
theorem Sh {U:List Tag} (hU:U.Nodup):∀ (n:List Tag),n.Nodup→(∀ t∈n,t∈U)→(U.map (fun u=>if has n u then 1 else 0)).sum=n.length:=by
 intro n
 induction n with
 | nil=>intro _ _; exact KH U _ (fun a _=>by simp [has])
 | cons t ts ih =>
   intro hn hm
   obtain ⟨h1,h2⟩:=List.nodup_cons.1 hn
   have e:(U.map (fun u=>if has (t::ts) u then 1 else 0))=U.map (fun u=>(if t==u then 1 else 0)+(if has ts u then 1 else 0)):=by
    apply List.map_congr_left
    intro u _
    by_cases hu:(t==u)=true
    ·have h3:has ts u=false:=by
      rw [← eq_of_beq hu]
      unfold has
      rw [List.any_eq_false]
      intro x hx hxt
      exact h1 (by rw [← eq_of_beq hxt]; exact hx)
     simp [has,hu]
     unfold has at h3
     rw [List.any_eq_false] at h3
     exact fun hm=>h3 u hm (by simp)
    ·simp [has,hu]
   rw [e,Oi,Sg hU (hm t (by simp)),ih h2 (fun x hx=>hm x (by simp [hx])),List.length_cons]
   omega
theorem Gs:∀ (s:Str),Bq s s=false:=by
 intro s
 induction s with
 | nil=>rfl
 | cons x xs ih =>
   have ih':Op.bytesLess xs xs=false:=ih
   show (decide (x< x) || x==x&&Op.bytesLess xs xs)=false
   simp [ih']
theorem LB {a b:Tag} (ha:Bg a=true) (hb:Bg b=true) (h:Bq a.key b.key=true):∃ x y,a.key=[x]∧b.key=[y]∧x.toNat< y.toNat:=by
 simp only [Bg,AR] at ha hb
 have h1:=Dy ha.1
 have h2:=Dy hb.1
 match ha':a.key,h1,hb':b.key,h2 with
 | [x], _, [y], _ =>
   rw [ha',hb',J3] at h
   exact ⟨x,y,rfl,rfl,by simpa using h⟩
theorem Nj:∀ (n:List Tag) (o:Option Tag),Dl o n=true→(∀ q,o=some q→Bg q=true)→(∀ q,o=some q→∀ t∈n,Bq q.key t.key=true)∧n.Nodup:=by
 intro n
 induction n with
 | nil=>intro o _ _; exact ⟨fun _ _ t ht=>(by cases ht),by simp⟩
 | cons t ts ih =>
   intro o h ho
   simp only [Dl,AR] at h
   obtain ⟨⟨h1,h2⟩,h3⟩:=h
   obtain ⟨g1,g2⟩:=ih (some t) h3 (fun q hq=>by cases hq; exact h1)
   refine ⟨fun q hq u hu=>?_,List.nodup_cons.2 ⟨fun hm=>?_,g2⟩⟩
   ·subst hq
    have h4:Bq q.key t.key=true:=h2
    rcases List.mem_cons.1 hu with rfl | hu
    ·exact h4
    ·have h5:=g1 t rfl u hu
     obtain ⟨x,y,e1,e2,l1⟩:=LB (ho q rfl) h1 h4
     obtain ⟨y',z,e3,e4,l2⟩:=LB h1 (EL ts (some t) h3 u hu) h5
     rw [e2] at e3
     cases e3
     rw [e1,e4,J3]
     simp; omega
   ·have h5:=g1 t rfl t hm
    rw [Gs] at h5
    cases h5
theorem Fy {n:List Tag} (h:BS n=true):n.Nodup∧∀ t∈n,t∈Ei:=by
 simp only [BS,AR] at h
 exact ⟨(Nj n none h.1 (by simp)).2,fun t ht=>PU (EL n none h.1 t ht)⟩
theorem Mm:Ei.Nodup:=Hw.imp (fun {a b} h e=>by
 subst e
 unfold DF at h
 simp [Gs] at h)
theorem Qp {names:List (List Tag)} (h:∀ n∈names,BS n=true):Mk (Ci names)=KG names:=by
 rw [Ml]
 unfold ids
 have e:(Ei.map (fun t=>(FC t 0 names).length))=Ei.map (fun t=>(names.map (fun n=>if has n t then 1 else 0)).sum):=by
  apply List.map_congr_left
  intro t _
  exact Qo t names 0
 rw [e]
 clear e
 induction names with
 | nil=>exact KH _ _ (fun _ _=>rfl)
 | cons n ns ih =>
   have e:(Ei.map (fun t=>((n::ns).map (fun n=>if has n t then 1 else 0)).sum))=Ei.map (fun t=>(if has n t then 1 else 0)+(ns.map (fun n=>if has n t then 1 else 0)).sum):=by
    apply List.map_congr_left
    intro t _
    rfl
   have g:=Fy (h n (by simp))
   rw [e,Oi,Sh Mm n g.1 g.2,ih (fun m hm=>h m (by simp [hm]))]
   rfl
end Go.Proofs.YtganlmloonielaaGreat
namespace Go.Proofs.YtganlmloonielaaGreat
structure IxI (x:Idx):Prop where
 eq:x=idxOf x.names
 nm:NmI x.names
theorem IxI.AV {x:Idx} (h:IxI x):x.AV=Ci x.names:=by have:=h.eq; rw [this]; rfl
theorem IxI.sz {x:Idx} (h:IxI x):QQ x:=⟨by have:=h.nm.len; omega,h.nm.sz⟩
theorem SD.ix {s:Sto} (h:SD s):IxI s.idx:=⟨h.idx,h.nm⟩
theorem SD.sz {s:Sto} (h:SD s):MX s:=⟨h.ix.sz,by have:=h.np; omega,fun p hp=>(h.part p hp).sz,by have:=h.nm2; omega⟩
theorem Qq {names:List (List Tag)} (h:(names.map text).Nodup) {i k:Nat} {x y:List Tag} (hx:names[i]? = some x) (hy:names[k]? = some y) (hk:k< i):¬ (text x=text y):=by
 intro e
 have h1:(names.map text)[i]? = some (text x):=by rw [List.getElem?_map,hx]; rfl
 have h2:(names.map text)[k]? = some (text y):=by rw [List.getElem?_map,hy]; rfl
 obtain ⟨g1,g2⟩:=List.getElem?_eq_some_iff.1 h1
 obtain ⟨g3,g4⟩:=List.getElem?_eq_some_iff.1 h2
 exact (List.pairwise_iff_getElem.1 h) k i g3 g1 hk (by rw [g2,g4,e])
theorem Ly (names:List (List Tag)) (t:Tag):(ids names t).length≤names.length:=by
 unfold ids
 have:∀ (ns:List (List Tag)) (i:Nat),(FC t i ns).length≤ns.length:=by
  intro ns
  induction ns with
  | nil=>intro i; simp [FC]
  | cons n ns ih =>
    intro i
    have:=ih (i+1)
    rw [FC,List.length_append,List.length_cons]
    split <;> simp <;> omega
 exact this names 0
theorem Lz {α:Type} {f:α→Nat} {l:List α} {i:Nat} {x:α} (h:l[i]? = some x):((l.take (i+1)).map f).sum=((l.take i).map f).sum+f x:=by
 obtain ⟨h1,h2⟩:=List.getElem?_eq_some_iff.1 h
 rw [List.take_add_one,h]
 simp
theorem Nk {names:List (List Tag)} {i:Nat} {x y:Pst} (hx:(Ci names)[i]? = some x) (hy:(Ci names)[i - 1]? = some y) (hi:0< i):DF y.tag x.tag=true:=by
 have h:=Hx names
 rw [List.pairwise_iff_getElem] at h
 obtain ⟨g1,g2⟩:=List.getElem?_eq_some_iff.1 hx
 obtain ⟨g3,g4⟩:=List.getElem?_eq_some_iff.1 hy
 have:=h (i - 1) i g3 g1 AB
 rw [g2,g4] at this
 exact this
theorem PV (names:List (List Tag)):(Ci names).length≤44:=by
 rw [E5]
 have h:∀ U:List Tag,(U.flatMap (Eh names)).length≤U.length:=by
  intro U
  induction U with
  | nil=>simp
  | cons t ts ih =>
    rw [List.flatMap_cons,List.length_append,List.length_cons]
    have:(Eh names t).length≤1:=by unfold Eh; split <;> simp
    omega
 have h2:Ei.length=44:=by decide +kernel
 have:=h Ei
 omega
theorem US {x:Idx} (h:IxI x):Mk x.AV=KG x.names:=by rw [h.AV]; exact Qp h.nm.ok
theorem Fz {α:Type} {f:α→Bool} {l:List α} {i:Nat} {x:α} {b:Bool} (h:(l.drop i).all f=b) (hd:l.drop i=x::l.drop (i+1)) (hx:f x=true):(l.drop (i+1)).all f=b:=by
 rw [hd,List.all_cons,hx,Bool.true_and] at h
 exact h
theorem FJ {α:Type} {f:α→Bool} {l:List α} {i:Nat} {x:α} {b:Bool} (h:(l.drop i).all f=b) (hd:l.drop i=x::l.drop (i+1)) (hx:f x=false):b=false:=by
 rw [hd,List.all_cons,hx,Bool.false_and] at h
 exact h.symm
theorem HR {α:Type} {f:α→Bool} {l:List α} {i:Nat} {b:Bool} (h:(l.drop i).all f=b) (hi:l.length≤i):b=true:=by
 rw [AY hi] at h
 exact h.symm
def Dz (n:Nat) (m:Smp):Bool:=inR m.id 1 n&&Bw m.row
def EZ (s:Sto) (i:Nat):Bool:=decide ((rowsOf s ((i:Int)+1)).length≤24)
def Ak (s:Sto):Bool :=
 decide (s.parts.length≤6)&&decide (s.mem.length≤20)&&s.parts.all (fun p=>Br p s.idx.names.length)&&s.mem.all (Dz s.idx.names.length)&&(List.range s.idx.names.length).all (EZ s)
theorem Gt {s:Sto} (h:(s.parts.length:Int) > 6∨(s.mem.length:Int) > 20):Ak s=false:=by
 unfold Ak
 rcases h with h | h
 ·rw [decide_eq_false AB]; simp
 ·rw [decide_eq_false (p:=s.mem.length≤20) AB]; simp
theorem Gu {s:Sto} (h:s.parts.all (fun p=>Br p s.idx.names.length)=false):Ak s=false:=by unfold Ak; rw [h]; simp
theorem Gv {s:Sto} (h:s.mem.all (Dz s.idx.names.length)=false):Ak s=false:=by unfold Ak; rw [h]; simp
theorem LC {s:Sto} (h:(List.range s.idx.names.length).all (EZ s)=false):Ak s=false:=by unfold Ak; rw [h]; simp
theorem LD {s:Sto} (h1:¬ (s.parts.length:Int) > 6) (h2:¬ (s.mem.length:Int) > 20) (h3:s.parts.all (fun p=>Br p s.idx.names.length)=true) (h4:s.mem.all (Dz s.idx.names.length)=true) (h5:(List.range s.idx.names.length).all (EZ s)=true):Ak s=true:=by
 unfold Ak
 rw [h3,h4,h5,decide_eq_true AB,decide_eq_true AB]
 rfl
theorem Mn {n i:Nat} (h:i< n):(List.range n).drop i=i::(List.range n).drop (i+1):=by
 rw [List.drop_eq_getElem_cons (by simpa using h)]
 simp
theorem SD.copy {s:Sto} (h:SD s):BO s=s:=by
 have:=h.idx
 unfold BO
 rw [← this]
theorem Oj {s:Sto} {n k:Nat} {b:Bool} (h:((List.range n).drop (k - 1)).all (EZ s)=b) (h1:1≤k) (h2:k≤n) (h3:((rowsOf s (k:Int)).length:Int)≤24):((List.range n).drop (k+1 - 1)).all (EZ s)=b:=by
 have hd:=Mn (n:=n) (i:=k - 1) AB
 have:=Fz h hd (by unfold EZ; rw [show ((k - 1:Nat):Int)+1=(k:Int) by omega]; simp; omega)
 rw [show k+1 - 1=k - 1+1 by omega]
 exact this
theorem Tt {s:Sto} {n k:Nat} {b:Bool} (h:((List.range n).drop (k - 1)).all (EZ s)=b) (h1:1≤k) (h2:k≤n) (h3:((rowsOf s (k:Int)).length:Int) > 24):b=false:=by
 have hd:=Mn (n:=n) (i:=k - 1) AB
 exact FJ h hd (by unfold EZ; rw [show ((k - 1:Nat):Int)+1=(k:Int) by omega]; simp; omega)
theorem Qr {s:Sto} {n k:Nat} {b:Bool} (h:((List.range n).drop (k - 1)).all (EZ s)=b) (h1:n+1≤k):b=true:=HR h (by simp; omega)
end Go.Proofs.YtganlmloonielaaGreat
