/- Blocks and parts merged, as the program does it: plain laws. -/
import Derived.Test.YtganlmloonielaaGreatTazMod54k17
import Derived.Test.YtganlmloonielaaGreatTazMod57k25
import Derived.Test.YtganlmloonielaaGreatTazMod58k21
set_option linter.unusedVariables false
set_option linter.unusedSimpArgs false
namespace Go.Proofs.YtganlmloonielaaGreat
theorem Js {a b:List Row} (h:BE a=false∨BE b=false):CP a b=([],false):=by
 unfold CP
 rw [if_neg]
 rintro ⟨h1,h2,_⟩
 rcases h with h | h
 ·rw [h] at h1; cases h1
 ·rw [h] at h2; cases h2
theorem Ov {a b out:List Row} (e:out=Bk a b) (_ha:BE a=true) (_hb:BE b=true) (h:(out.length:Int) > 24):[]=(CP a b).1∧false=(CP a b).2:=by
 subst e
 unfold CP
 rw [if_neg (fun q=>q.2.2 h)]
 exact ⟨rfl,rfl⟩
theorem Ow {a b out:List Row} (e:out=Bk a b) (ha:BE a=true) (hb:BE b=true) (h:¬ (out.length:Int) > 24):out=(CP a b).1∧true=(CP a b).2:=by
 subst e
 unfold CP
 rw [if_pos ⟨ha,hb,h⟩]
 exact ⟨rfl,rfl⟩
theorem RO {a b:List Row} (h:(CP a b).2=true):(CP a b).1=Bk a b:=by
 unfold CP at h ⊢
 split at h
 ·rename_i h1; rw [if_pos h1]
 ·cases h
theorem RQ (a b:Prt) (n:Nat):okM a b (n+1)=(okM a b n&&(CP (BQ a ((n:Int)+1)) (BQ b ((n:Int)+1))).2):=by simp [okM,List.range_succ]
theorem Jt {a b:Prt} (h:Au a=false∨Au b=false):Bu a b=(⟨[],[]⟩,false):=by
 unfold Bu
 rw [if_neg]
 rintro ⟨h1,h2,_⟩
 rcases h with h | h
 ·rw [h] at h1; cases h1
 ·rw [h] at h2; cases h2
theorem Ox {a b:Prt} {k:Nat} (h1:1≤k) (h2:k≤6) (h:(CP (BQ a (k:Int)) (BQ b (k:Int))).2=false):Bu a b=(⟨[],[]⟩,false):=by
 unfold Bu
 rw [if_neg]
 rintro ⟨_,_,h3⟩
 unfold okM at h3
 rw [List.all_eq_true] at h3
 have:=h3 (k - 1) (by simp; omega)
 rw [show ((k - 1:Nat):Int)+1=(k:Int) by omega,h] at this
 cases this
theorem M7 {a b:Prt} {k:Nat} (h:okM a b (k - 1)=true) (h1:1≤k) (h2:(CP (BQ a (k:Int)) (BQ b (k:Int))).2=true):okM a b (k+1 - 1)=true:=by
 rw [show k+1 - 1=(k - 1)+1 by omega,RQ,h,show ((k - 1:Nat):Int)+1=(k:Int) by omega,h2]
 rfl
theorem Oy {a b:Prt} (ha:Au a=true) (hb:Au b=true) {k:Nat} (hk:1≤k) (h:(CP (BQ a (k:Int)) (BQ b (k:Int))).2=true):Be a b (k+1 - 1)=Be a b (k - 1)++[(CP (BQ a (k:Int)) (BQ b (k:Int))).1]:=by
 have ea:BQ a (k:Int)=partOf a (k:Int):=by unfold BQ; rw [if_pos ha]
 have eb:BQ b (k:Int)=partOf b (k:Int):=by unfold BQ; rw [if_pos hb]
 rw [show k+1 - 1=(k - 1)+1 by omega,Hk,show ((k - 1:Nat):Int)+1=(k:Int) by omega,RO h,ea,eb]
section
variable {a b:Prt} {k:Nat}
theorem TF {o:List Int} (ha:Au a=true) (hb:Au b=true) (hk:1≤k) (h:(CP (BQ a (k:Int)) (BQ b (k:Int))).2=true) (e:o=(BY 0 (Be a b (k - 1))).1) (hl:((CP (BQ a (k:Int)) (BQ b (k:Int))).1.length:Int) > 0):o++[(k:Int)]=(BY 0 (Be a b (k+1 - 1))).1:=by
 rw [Oy ha hb hk h,DM,if_pos AB,e,Dn,show ((0:Nat):Int)+((k - 1:Nat):Int)+1=(k:Int) by omega]
theorem TG {o:List Int} (ha:Au a=true) (hb:Au b=true) (hk:1≤k) (h:(CP (BQ a (k:Int)) (BQ b (k:Int))).2=true) (e:o=(BY 0 (Be a b (k - 1))).1) (hl:¬ ((CP (BQ a (k:Int)) (BQ b (k:Int))).1.length:Int) > 0):o=(BY 0 (Be a b (k+1 - 1))).1:=by
 rw [Oy ha hb hk h,DM,if_neg AB,e]
theorem TH {o:List (List Row)} (ha:Au a=true) (hb:Au b=true) (hk:1≤k) (h:(CP (BQ a (k:Int)) (BQ b (k:Int))).2=true) (e:o=(BY 0 (Be a b (k - 1))).2) (hl:((CP (BQ a (k:Int)) (BQ b (k:Int))).1.length:Int) > 0):o++[(CP (BQ a (k:Int)) (BQ b (k:Int))).1]=(BY 0 (Be a b (k+1 - 1))).2:=by
 rw [Oy ha hb hk h,DM,if_pos AB,e]
theorem TI {o:List (List Row)} (ha:Au a=true) (hb:Au b=true) (hk:1≤k) (h:(CP (BQ a (k:Int)) (BQ b (k:Int))).2=true) (e:o=(BY 0 (Be a b (k - 1))).2) (hl:¬ ((CP (BQ a (k:Int)) (BQ b (k:Int))).1.length:Int) > 0):o=(BY 0 (Be a b (k+1 - 1))).2:=by
 rw [Oy ha hb hk h,DM,if_neg AB,e]
theorem Oz {x:List Int} {y:List (List Row)} (hk:k=7) (ha:Au a=true) (hb:Au b=true) (e1:x=(BY 0 (Be a b (k - 1))).1) (e2:y=(BY 0 (Be a b (k - 1))).2) (h:okM a b (k - 1)=true):(⟨x,y⟩:Prt)=(Bu a b).1∧true=(Bu a b).2:=by
 subst hk e1 e2
 unfold Bu
 rw [if_pos ⟨ha,hb,h⟩]
 exact ⟨rfl,rfl⟩
end
theorem LL {p:Prt} (h:Cw p) (id:Int):(BQ p id).length≤1000:=by
 unfold BQ
 split
 ·exact Ck h id
 ·simp
end Go.Proofs.YtganlmloonielaaGreat
namespace Go.Proofs.YtganlmloonielaaGreat
set_option maxRecDepth 100000
set_option maxHeartbeats 4000000
theorem IB (a:List Row) (b:List Row) {w:World} {F:Nat→Prop} {a1:Option Addr} {n1 c1:Nat} (h1:RepS w F a1 n1 c1 a) {a2:Option Addr} {n2 c2:Nat} (h2:RepS w F a2 n2 c2 b) (p0:a.length≤1000) (p1:b.length≤1000):Calls Tryz.prog 76 [.slice a1 n1 c1,.slice a2 n2 c2].toArray w (As fun rv w'=>(∃ v0,rv=.tuple #[v0,.bool ((CP a b).2)]∧VL (ge w.heap.size) w' ((CP a b).1:List Row) v0)∧Ext w w'):=by
 refine goT Tryz.func76 ?_
 obtain ⟨rfl,bH,h1⟩:=h1.tp
 obtain ⟨rfl,bI,h2⟩:=h2.tp
 refine .s<|.g<|.r 2<|.d<|.s<|.s<|.g<|.r 1<|.cl (DK a h1.ta (w:=w) (F:=all)) ?_
 rintro bX bA ⟨rfl,ah⟩
 replace ⟨h1,h2⟩:=(se [] ah).g2 h1 h2
 have C:=ah
 cases bJ:(BE a)
 ·refine .r 6<|.d<|.ct<|.s<|.g<|.ns 0 105 [] fun ai aU aj az aV aW=>?_
  have aX:=Ad aj C.size
  replace ⟨h1,h2,C⟩:=(sn [] az aj).g3 h1 h2 C
  have aY:Own (α:=Row) aU ai 105 (nin (ge w.heap.size) [ai]) 0 0 []:=Own.Ag aV
  refine .r 2<|.d ?_
  have bB:=aY.sl aX
  replace ⟨h1,h2⟩:=(sd aU [ai] ai).g2 h1 h2
  exact .r2 Tryz.func76 Tryz.results76 (.t (vS ai 0 0)) (.t (.bool false)) ⟨⟨_,(CS rfl (congrArg Value.bool (by exact (congrArg Prod.snd (Js (.inl ‹_›))).symm))),(bB.vl (by exact (congrArg Prod.fst (Js (.inl ‹_›))).symm) (fun _ _ h=>h.1))⟩,C⟩
 refine .r 3<|.cl (DK b h2.ta (w:=bA) (F:=all)) ?_
 rintro bY bZ ⟨rfl,aA⟩
 replace ⟨h1,h2,C⟩:=(se [] aA).g3 h1 h2 C
 cases bK:(BE b)
 ·refine .r 2<|.d<|.ct<|.s<|.g<|.ns 0 105 [] fun ak aZ al aB ba bc=>?_
  have bd:=Ad al C.size
  replace ⟨h1,h2,C⟩:=(sn [] aB al).g3 h1 h2 C
  have bg:Own (α:=Row) aZ ak 105 (nin (ge w.heap.size) [ak]) 0 0 []:=Own.Ag ba
  refine .r 2<|.d ?_
  have bC:=bg.sl bd
  replace ⟨h1,h2⟩:=(sd aZ [ak] ak).g2 h1 h2
  exact .r2 Tryz.func76 Tryz.results76 (.t (vS ak 0 0)) (.t (.bool false)) ⟨⟨_,(CS rfl (congrArg Value.bool (by exact (congrArg Prod.snd (Js (.inr ‹_›))).symm))),(bC.vl (by exact (congrArg Prod.fst (Js (.inr ‹_›))).symm) (fun _ _ h=>h.1))⟩,C⟩
 refine .r 2<|.d<|.cf<|.sk<|.s<|.g<|.ns 0 105 [] fun ax bD ae aC bh bi=>?_
 have bj:=Ad ae C.size
 have bL:=C.cn ae
 replace ⟨h1,h2,C⟩:=(sn [] aC ae).g3 h1 h2 C
 have bk:Own (α:=Row) bD ax 105 (nin (ge w.heap.size) [ax]) 0 0 []:=Own.Ag bh
 refine .r 1<|RG.Ay (T:=91) (ty:=91) Bx bk h1 AA AA (fun b h e=>h.2 (e▸AD)) AB fun aJ bE aK W ab aD=>?_
 have bm:=Bt ab bj C.size
 replace ⟨h2,C⟩:=(sa [ax] aD ab).g2 h2 C
 replace W:=W.rn ax
 have bM:=W.len; have bN:=W.max
 refine .r 1<|.d<|.s<|.s<|.g<|.r 3<|.d<|.b 0 ?_
 have bF:=W.sl bm
 replace h2:=(sd aK [aJ] aJ).g1 h2
 refine T.loop (X:=(List Row) × (Option Addr) × Nat × Nat × Nat) ((([]++a):List Row),some ⟨aJ,0,none⟩,0+a.length,bE,0) (fun (out,a_out,n_out,c_out,k)=>[(6,.slice a_out n_out c_out),(21,.slice a2 b.length c2),(22,vI (b.length:Int)),(23,vI (k:Int))]) (fun (out,a_out,n_out,c_out,k) ay=>Chg (ins []) aK ay∧RepS ay (nin (ge w.heap.size) []) a_out n_out c_out out∧(k≤b.length)∧(Blk out)∧((b.drop k).foldl Di out=Bk a b)) (fun (out,a_out,n_out,c_out,k)=>b.length - k) AA ⟨AA,AA,AA,AA,trivial⟩ ⟨Chg.refl _ _,bF,AB,(by exact HH ‹_›),(by rfl)⟩ ?_
 rintro ⟨out,a_out,n_out,c_out,k⟩ b0 ay ⟨J,E,bO,bP,bQ⟩ am
 have aE:Mv [] [] aK ay:=Mv.inl J all_nil all_nil
 replace ⟨h2,C⟩:=(sp aE J).g2 h2 C
 have bR:=E.len; have bS:=E.max
 refine .s<|.g<|.bp ((k:Int)< (b.length:Int)) (fun bn=>?_) (fun bn=>?_)
 ·refine .d<|.s<|.ct<|.sk<|.s<|.b 1<|.s<|.g ?_
  have bo:k< b.length:=AB
  refine .ix k 2 h2 bo ?_
  obtain ⟨ag,ao⟩:∃ y,b[k]? = some y:=⟨_,AP AB⟩
  have bT:=AX ao; have bz:=AQ ao
  obtain ⟨_,rfl,bq⟩:=h2.elem k ag ao
  refine .lg 0 bq<|.np 105 [vI 0,vI 0] fun aL b6 af aF br bt=>?_
  have bU:=C.cn af
  have bV:=J.cn af
  replace ⟨E,C,J⟩:=(sn [] aF af).g3 E C J
  refine .sc [vI ag.t,vI ag.v] br fun aG aq ar aM=>?_
  replace ⟨E,C,J⟩:=(so [aL] aq).g3 E C J
  refine .d<|.g<|.r 1<|.ln ar<|.cl (HS out ag E.ta (by have:=Blk.len (by assumption:Blk out); omega) (w:=aG) (F:=all)) ?_
  rintro bW aH ⟨⟨bu,bv,rfl,O⟩,au⟩
  have av:=al1 ar.lt
  have aN:Gb w.heap.size aG.heap.size:=C.size
  replace ⟨E,C,J⟩:=(se [aL] au).g3 E C J
  have O:=O.fr av aN
  have bG:=O.max
  refine .r 1<|.d<|.ib 1<|.g<|.it ((k:Int)+1)<|.r 1<|.d ?_
  have aO:Mv [aL] [] aH aH:=Mv.less all_nil
  replace ⟨E,O⟩:=(sp aO (Chg.refl nil _)).g2 E O
  exact am (DA ag out,bu,(DA ag out).length,bv,k+1) _ _ ⟨AA,AA,AA,AA,trivial⟩ ⟨J,O,AB,(by exact Blk.ins ‹_› ((HH (by assumption:BE b=true)).rows _ ‹_›)),(by rw [← Fi ‹_›]; exact E6 ‹_› ‹_›)⟩ (by (simp only []; omega))
 refine .d<|.s<|.cf<|.x 0 rfl<|.s<|.s<|.g<|.r 2<|.bp ((n_out:Int) > 24) (fun aP=>?_) (fun aP=>.d<|.cf<|.sk<|.s<|.g<|.r 3<|.d<|.r2 Tryz.func76 Tryz.results76 (.t (.slice a_out n_out c_out)) (.t (.bool true)) ⟨⟨_,(CS rfl (congrArg Value.bool (by exact (Ow (out:=out) (FK ‹_› AB) ‹_› ‹_› AB).2))),(E.vl (by exact (Ow (out:=out) (FK ‹_› AB) ‹_› ‹_› AB).1) (fun _ _ h=>h.1))⟩,C⟩)
 refine .d<|.ct<|.s<|.g<|.ns 0 105 [] fun aa aI ac aw aQ aR=>?_
 have aS:=Ad ac C.size
 replace ⟨E,C⟩:=(sn [] aw ac).g2 E C
 have aT:Own (α:=Row) aI aa 105 (nin (ge w.heap.size) [aa]) 0 0 []:=Own.Ag aQ
 refine .r 2<|.d ?_
 have bw:=aT.sl aS
 replace E:=(sd aI [aa] aa).g1 E
 exact .r2 Tryz.func76 Tryz.results76 (.t (vS aa 0 0)) (.t (.bool false)) ⟨⟨_,(CS rfl (congrArg Value.bool (by exact (Ov (out:=out) (FK ‹_› AB) ‹_› ‹_› AB).2))),(bw.vl (by exact (Ov (out:=out) (FK ‹_› AB) ‹_› ‹_› AB).1) (fun _ _ h=>h.1))⟩,C⟩
theorem DR (a:Prt) (b:Prt) {w:World} {F:Nat→Prop} {a1:Option Addr} {n1 c1:Nat} (h1:RepS w F a1 n1 c1 a.ids) {a2:Option Addr} {n2 c2:Nat} (h2:RepS w F a2 n2 c2 a.blocks) {a3:Option Addr} {n3 c3:Nat} (h3:RepS w F a3 n3 c3 b.ids) {a4:Option Addr} {n4 c4:Nat} (h4:RepS w F a4 n4 c4 b.blocks) (p0:Cw a) (p1:Cw b):Calls Tryz.prog 32 [.agg #[.slice a1 n1 c1,.slice a2 n2 c2],.agg #[.slice a3 n3 c3,.slice a4 n4 c4]].toArray w (As fun rv w'=>(∃ v0,rv=.tuple #[v0,.bool ((Bu a b).2)]∧VS (ge w.heap.size) w' ((Bu a b).1:Prt) v0)∧Ext w w'):=by
 refine goT Tryz.func32 ?_
 obtain ⟨rfl,d7,h1⟩:=h1.tp
 obtain ⟨rfl,d8,h2⟩:=h2.tp
 obtain ⟨rfl,d9,h3⟩:=h3.tp
 obtain ⟨rfl,ec,h4⟩:=h4.tp
 refine .s<|.g<|.np 42 [.slice a1 a.ids.length c1,.slice a2 a.blocks.length c2] fun ae eQ bD aV E cN=>?_
 replace ⟨h1,h2,h3,h4⟩:=(sn [] aV bD).g4 h1 h2 h3 h4
 have C:=aV
 refine .np 42 [.slice a3 b.ids.length c3,.slice a4 b.blocks.length c4] fun af eR bE bF J cO=>?_
 replace ⟨h1,h2,h3,h4,E,C⟩:=(sn [ae] bF bE).g6 h1 h2 h3 h4 E C
 refine .np 42 [.slice none 0 0,.slice none 0 0] fun ag dq aN bG O cP=>?_
 have ed:=AS aN E.lt
 have ee:=AS aN J.lt
 have ef:=C.cn aN
 replace ⟨h1,h2,h3,h4,E,J,C⟩:=(sn [af,ae] bG aN).g7 h1 h2 h3 h4 E J C
 refine .r 1<|.d<|.s<|.s<|.g<|.ln E<|.cl (C7 a h1.ta h2.ta (w:=dq) (F:=all)) ?_
 rintro eS dr ⟨rfl,bH⟩
 replace ⟨h1,h2,h3,h4,E,J,O,C⟩:=(se [ag,af,ae] bH).g8 h1 h2 h3 h4 E J O C
 cases eg:(Au a)
 ·refine .r 6<|.d<|.ct<|.s<|.g<|.r 1<|.sc [.slice none 0 0,.slice none 0 0] O fun eT bI cQ cR=>?_
  replace ⟨h1,h2,h3,h4,E,J,C⟩:=(so [ag,af,ae] bI).g7 h1 h2 h3 h4 E J C
  exact .r 1<|.d<|.r2 Tryz.func32 Tryz.results32 (.bx cQ) (.t (.bool false)) ⟨⟨_,(CS rfl (congrArg Value.bool (by exact (congrArg Prod.snd (Jt (.inl ‹_›))).symm))),(VS.of (y:=(⟨([]:List Int),([]:List (List Row))⟩:Prt)) ⟨_,rfl,⟨_,_,_,_,_,_,rfl,(RepS.Ag _ _ none 0 (by decide)),(RepS.Ag _ _ none 0 (by decide))⟩⟩ (by exact (congrArg Prod.fst (Jt (.inl ‹_›))).symm))⟩,C⟩
 refine .r 2<|.ln J<|.cl (C7 b h3.ta h4.ta (w:=dr) (F:=all)) ?_
 rintro eU eV ⟨rfl,bJ⟩
 replace ⟨h1,h2,h3,h4,E,J,O,C⟩:=(se [ag,af,ae] bJ).g8 h1 h2 h3 h4 E J O C
 cases eh:(Au b)
 ·refine .r 2<|.d<|.ct<|.s<|.g<|.r 1<|.sc [.slice none 0 0,.slice none 0 0] O fun eW bK cS cT=>?_
  replace ⟨h1,h2,h3,h4,E,J,C⟩:=(so [ag,af,ae] bK).g7 h1 h2 h3 h4 E J C
  exact .r 1<|.d<|.r2 Tryz.func32 Tryz.results32 (.bx cS) (.t (.bool false)) ⟨⟨_,(CS rfl (congrArg Value.bool (by exact (congrArg Prod.snd (Jt (.inr ‹_›))).symm))),(VS.of (y:=(⟨([]:List Int),([]:List (List Row))⟩:Prt)) ⟨_,rfl,⟨_,_,_,_,_,_,rfl,(RepS.Ag _ _ none 0 (by decide)),(RepS.Ag _ _ none 0 (by decide))⟩⟩ (by exact (congrArg Prod.fst (Jt (.inr ‹_›))).symm))⟩,C⟩
 refine .r 2<|.d<|.cf<|.sk<|.s<|.g<|.ns 0 3 [] fun av dt aE bL cU cV=>?_
 have cW:=AS aE E.lt
 have cX:=AS aE J.lt
 have cY:=AS aE O.lt
 have cZ:=Ad aE C.size
 have c7:=C.cn aE
 replace ⟨h1,h2,h3,h4,E,J,O,C⟩:=(sn [ag,af,ae] bL aE).g8 h1 h2 h3 h4 E J O C
 have ax:Own (α:=Int) dt av 3 (nin (ge w.heap.size) [av,ag,af,ae]) 0 0 []:=Own.Ag cU
 refine .ns 0 91 [] fun aA du aB bM c8 c9=>?_
 have da:=AS aB E.lt
 have db:=AS aB J.lt
 have de:=AS aB O.lt
 have df:=AS aB ax.lt
 have dg:=Ad aB C.size
 have dh:=C.cn aB
 replace ⟨h1,h2,h3,h4,E,J,O,ax,C⟩:=(sn [av,ag,af,ae] bM aB).g9 h1 h2 h3 h4 E J O ax C
 have aH:Own (α:=List Row) du aA 91 (nin (ge w.heap.size) [aA,av,ag,af,ae]) 0 0 []:=Own.Ag c8
 refine .r 1<|.np 42 [.slice none 0 0,.slice none 0 0] fun ah eX aC aW bS bT=>?_
 have dv:=AS aC E.lt
 have dw:=AS aC J.lt
 have dx:=AS aC O.lt
 have bU:=AS aC ax.lt
 have bV:=AS aC aH.lt
 have dy:=C.cn aC
 replace ⟨h1,h2,h3,h4,E,J,O,ax,aH,C⟩:=(sn [aA,av,ag,af,ae] aW aC).g10 h1 h2 h3 h4 E J O ax aH C
 refine .sc [vS av 0 0,vS aA 0 0] bS fun aF aX aO bW=>?_
 replace ⟨h1,h2,h3,h4,E,J,O,ax,aH,C⟩:=(so [ah,aA,av,ag,af,ae] aX).g10 h1 h2 h3 h4 E J O ax aH C
 refine .d<|.s<|.s<|.g<|.r 1<|.d<|.b 0<|T.loop (X:=Nat × (List Int) × Nat × Nat × Nat × (List (List Row)) × Nat × Nat × Nat) (1,([]:List Int),av,0,0,([]:List (List Row)),aA,0,0) (fun (j,am,r_out_0,n_out_0,c_out_0,ao,r_out_1,n_out_1,c_out_1)=>[(2,.pointer (some ⟨ae,0,none⟩)),(3,.pointer (some ⟨af,0,none⟩)),(4,.pointer (some ⟨ag,0,none⟩)),(6,.pointer (some ⟨ah,0,none⟩)),(7,vI (j:Int))]) (fun (j,am,r_out_0,n_out_0,c_out_0,ao,r_out_1,n_out_1,c_out_1) aI=>Chg (ins [av,aA,ah]) aF aI∧Own aI r_out_0 3 (nin (ge w.heap.size) [ah,r_out_1,r_out_0,ag,af,ae]) n_out_0 c_out_0 am∧OrB r_out_0 av aF.heap.size∧Own aI r_out_1 91 (nin (ge w.heap.size) [ah,r_out_1,r_out_0,ag,af,ae]) n_out_1 c_out_1 ao∧OrB r_out_1 aA aF.heap.size∧Nb r_out_1 r_out_0∧Box aI ah 42 [vS r_out_0 n_out_0 c_out_0,vS r_out_1 n_out_1 c_out_1]∧(1≤j)∧(j≤7)∧(am.length≤j)∧(ao.length≤j)∧(am=(BY 0 (Be a b (j - 1))).1)∧(ao=(BY 0 (Be a b (j - 1))).2)∧(okM a b (j - 1)=true)) (fun (j,am,r_out_0,n_out_0,c_out_0,ao,r_out_1,n_out_1,c_out_1)=>7 - j) AA ⟨AA,AA,AA,AA,AA,trivial⟩ ⟨Chg.refl _ _,ax,BJ,aH,BJ,df,aO,AB,AB,(by (simp; done)),(by (simp; done)),(by rfl),(by rfl),(by rfl)⟩ ?_
 rintro ⟨j,am,r_out_0,n_out_0,c_out_0,ao,r_out_1,n_out_1,c_out_1⟩ ej aI ⟨aa,ab,ak,W,al,aY,ac,dz,dA,dB,dC,dD,dE,dF⟩ aJ
 have dG:=Aw ak cW E.lt
 have dH:=Aw ak cX J.lt
 have dI:=Aw ak cY O.lt
 have bX:=Aw ak (Nb.symm bU) aO.lt
 have bY:=Bv ak cZ C.size
 have dJ:=Ar ak c7 C.size
 have dK:=Aw al da E.lt
 have dL:=Aw al db J.lt
 have dM:=Aw al de O.lt
 have bZ:=Aw al (Nb.symm bV) aO.lt
 have b0:=Bv al dg C.size
 have dN:=Ar al dh C.size
 have b6:Cov (ins [av,aA,ah]) aF av:=⟨.inl AD⟩
 have b7:Cov (ins [av,aA,ah]) aF aA:=⟨.inl AE⟩
 have dO:Cov (ins [av,aA,ah]) aF ah:=⟨.inl AF⟩
 have dP:=Ar ak b6 (Nat.le_refl _)
 have dQ:=Ar al b7 (Nat.le_refl _)
 have aZ:Mv [ah,aA,av,ag,af,ae] [ah,r_out_1,r_out_0,ag,af,ae] aF aI:=Mv.inl aa (all_cons AF (all_cons AE (all_cons AD all_nil))) (all_cons (.inl AD) (all_cons (BV al AE) (all_cons (BV ak AF) (all_cons (.inl AG) (all_cons (.inl AH) (all_cons (.inl AI) all_nil))))))
 replace ⟨h1,h2,h3,h4,E,J,O,C⟩:=(sp aZ aa).g8 h1 h2 h3 h4 E J O C
 have dR:=ab.len; have dS:=ab.max
 have dT:=W.len; have dU:=W.max
 refine .s<|.s<|.g<|.r 1<|.bp ((j:Int)≤6) (fun b8=>?_) (fun b8=>?_)
 ·refine .d<|.ct<|.sk<|.s<|.b 1<|.s<|.gd nil 11 fun ek ba=>?_
  replace ⟨h1,h2,h3,h4,E,J,O,ab,W,ac,C,aa⟩:=(se [ah,r_out_1,r_out_0,ag,af,ae] ba).g12 h1 h2 h3 h4 E J O ab W ac C aa
  refine .ln 0 E id<|.r [1]<|.ln 3 J id<|.r [4]<|.go 2<|.cl (fun bc aK=>FY a (j:Int) (h1.ta.ext aK) (h2.ta.ext aK) (by exact p0) (w:=bc) (F:=all)) ?_
  intro bc aK
  replace ⟨h3,h4,E,J,O,ab,W,ac,C,aa⟩:=(se [ah,r_out_1,r_out_0,ag,af,ae] aK).g10 h3 h4 E J O ab W ac C aa
  rintro en et ⟨⟨ey,ez,rfl,aD⟩,aP⟩
  have bd:=al6 ac.lt W.lt ab.lt O.lt J.lt E.lt
  have b9:Gb w.heap.size bc.heap.size:=C.size
  have hkeep_:=aP
  replace ⟨h3,h4,E,J,O,ab,W,ac,C,aa⟩:=(se [ah,r_out_1,r_out_0,ag,af,ae] aP).g10 h3 h4 E J O ab W ac C aa
  refine ⟨Ext.chg hkeep_,?_⟩
  have aD:=aD.fr bd b9
  have dV:=aD.max
  refine .go 5<|.cl (fun bg aL=>FY b (j:Int) (h3.ta.ext aL) (h4.ta.ext aL) (by exact p1) (w:=bg) (F:=all)) ?_
  intro bg aL
  replace ⟨E,J,O,ab,W,ac,aD,C,aa⟩:=(se [ah,r_out_1,r_out_0,ag,af,ae] aL).g9 E J O ab W ac aD C aa
  rintro eA eB ⟨⟨eC,eD,rfl,aS⟩,aQ⟩
  have bh:=al6 ac.lt W.lt ab.lt O.lt J.lt E.lt
  have cd:Gb w.heap.size bg.heap.size:=C.size
  have hkeep_:=aQ
  replace ⟨E,J,O,ab,W,ac,aD,C,aa⟩:=(se [ah,r_out_1,r_out_0,ag,af,ae] aQ).g9 E J O ab W ac aD C aa
  refine ⟨Ext.chg hkeep_,?_⟩
  have aS:=aS.fr bh cd
  have dW:=aS.max
  refine .go 6<|.cl (fun bi aM=>IB (BQ a (j:Int)) (BQ b (j:Int)) (aD.ta.ext aM) (aS.ta.ext aM) (by exact LL p0 _) (by exact LL p1 _) (w:=bi) (F:=all)) ?_
  intro bi aM
  replace ⟨E,J,O,ab,W,ac,C,aa⟩:=(se [ah,r_out_1,r_out_0,ag,af,ae] aM).g8 E J O ab W ac C aa
  rintro eE eF ⟨⟨eG,rfl,⟨dj,dm,rfl,aj⟩⟩,aR⟩
  have bj:=al6 ac.lt W.lt ab.lt O.lt J.lt E.lt
  have ce:Gb w.heap.size bi.heap.size:=C.size
  have hkeep_:=aR
  replace ⟨E,J,O,ab,W,ac,C,aa⟩:=(se [ah,r_out_1,r_out_0,ag,af,ae] aR).g8 E J O ab W ac C aa
  refine ⟨Ext.chg hkeep_,?_⟩
  have aj:=aj.fr bj ce
  have dX:=aj.max
  refine .r [7,8] ?_
  cases dY:(CP (BQ a (j:Int)) (BQ b (j:Int))).2
  ·refine .r [9,10]<|.d fun eH bk=>?_
   replace ⟨E,J,O,ab,W,ac,aj,C,aa⟩:=(se [ah,r_out_1,r_out_0,ag,af,ae] bk).g9 E J O ab W ac aj C aa
   refine .r 1<|.d<|.s<|.s<|.g<|.r 2<|.d<|.ct<|.s<|.g<|.r 1<|.sc [.slice none 0 0,.slice none 0 0] O fun eI bm cg ci=>?_
   replace ⟨E,J,ab,W,ac,aj,C⟩:=(so [ah,r_out_1,r_out_0,ag,af,ae] bm).g7 E J ab W ac aj C
   exact .r 1<|.d<|.r2 Tryz.func32 Tryz.results32 (.bx cg) (.t (.bool false)) ⟨⟨_,(CS rfl (congrArg Value.bool (by exact (congrArg Prod.snd (Ox (k:=j) AB AB ‹_›)).symm))),(VS.of (y:=(⟨([]:List Int),([]:List (List Row))⟩:Prt)) ⟨_,rfl,⟨_,_,_,_,_,_,rfl,(RepS.Ag _ _ none 0 (by decide)),(RepS.Ag _ _ none 0 (by decide))⟩⟩ (by exact (congrArg Prod.fst (Ox (k:=j) AB AB ‹_›)).symm))⟩,C⟩
  refine .r [9,10]<|.d fun eJ bn=>?_
  replace ⟨E,J,O,ab,W,ac,aj,C,aa⟩:=(se [ah,r_out_1,r_out_0,ag,af,ae] bn).g9 E J O ab W ac aj C aa
  refine .r 1<|.d<|.s<|.s<|.g<|.r 2<|.d<|.cf<|.sk<|.s<|.g<|.r 2<|.bp (((((CP (BQ a (j:Int)) (BQ b (j:Int))).1).length):Int) > 0) (fun cj=>?_) (fun cj=>.d<|.cf<|.sk<|.ib 1<|.g<|.r 1<|.it ((j:Int)+1)<|.r 1<|.d<|aJ (j+1,am,r_out_0,n_out_0,c_out_0,ao,r_out_1,n_out_1,c_out_1) _ _ ⟨AA,AA,AA,AA,AA,trivial⟩ ⟨aa,ab,ak,W,al,aY,ac,AB,AB,AB,AB,(by exact TG ‹_› ‹_› AB ‹_› ‹_› ‹_›),(by exact TI ‹_› ‹_› AB ‹_› ‹_› ‹_›),(by exact M7 ‹_› AB ‹_›)⟩ (by (simp only []; omega)))
  refine .d<|.ct<|.s<|.g<|.r 1<|.lb ac<|.r 1<|.ns 1 3 [vI (j:Int)] fun bN eK aq bo ck cm=>?_
  have co:=AS aq E.lt
  have cp:=AS aq J.lt
  have cq:=AS aq O.lt
  have bq:=AS aq ab.lt
  have cr:=AS aq W.lt
  have cu:=AS aq ac.lt
  have cv:=Ad aq C.size
  replace ⟨E,J,O,ab,W,ac,aj,C,aa⟩:=(se [ah,r_out_1,r_out_0,ag,af,ae] bo).g9 E J O ab W ac aj C aa
  have aT:nin (ge w.heap.size) [ah,r_out_1,r_out_0,ag,af,ae] bN∧bN≠r_out_0:=BG cv (all_cons cu (all_cons cr (all_cons bq (all_cons cq (all_cons cp (all_cons co all_nil)))))) bq
  refine RG.Ap (T:=24) (ty:=24) (y:=(j:Int)) ab ck AA AA rfl aT AB fun aG bO eL ai ay br=>?_
  have cw:=Ae ay (Nb.symm aY) W.lt
  have dZ:=Ae ay bX ac.lt
  have cx:=Bo ay ak aa.size
  replace ⟨E,J,O,W,ac,aj,C,aa⟩:=(sa [ah,r_out_1,r_out_0,ag,af,ae] br ay).g8 E J O W ac aj C aa
  replace ai:=ai.rn r_out_0
  have d0:=ai.len; have d3:=ai.max
  refine .r 1<|.ss 0 (vS aG (n_out_0+1) bO) ac fun eM bt ar cy=>?_
  replace ⟨E,J,O,ai,W,aj,C,aa⟩:=(so [ah,r_out_1,aG,ag,af,ae] bt).g8 E J O ai W aj C aa
  refine .d<|.g<|.r 1<|.lb ar<|.r 1<|.ns 1 91 [.slice dj (((CP (BQ a (j:Int)) (BQ b (j:Int))).1).length) dm] fun bP eN au bu cz cA=>?_
  have cB:=AS au E.lt
  have cC:=AS au J.lt
  have cD:=AS au O.lt
  have cE:=AS au ai.lt
  have bv:=AS au W.lt
  have cF:=AS au ar.lt
  have cG:=Ad au C.size
  replace ⟨O,ai,W,ar,aj,C,aa⟩:=(se [ah,r_out_1,aG,ag,af,ae] bu).g7 O ai W ar aj C aa
  have aU:nin (ge w.heap.size) [ah,r_out_1,aG,ag,af,ae] bP∧bP≠r_out_1:=BG cG (all_cons cF (all_cons bv (all_cons cE (all_cons cD (all_cons cC (all_cons cB all_nil)))))) bv
  refine RG.Ap (T:=40) (ty:=40) (y:=(CP (BQ a (j:Int)) (BQ b (j:Int))).1) W cz AA AA ⟨_,_,_,rfl,aj.oi⟩ aU AB fun bw bQ eO aw az bz=>?_
  have cH:=Ae az (Nb.symm cw) ai.lt
  have d4:=Ae az bZ ar.lt
  have cI:=Bo az al aa.size
  replace ⟨O,ai,ar,C,aa⟩:=(sa [ah,r_out_1,aG,ag,af,ae] bz az).g5 O ai ar C aa
  replace aw:=aw.rn r_out_1
  have d5:=aw.len; have d6:=aw.max
  refine .r 1<|.ss 1 (vS bw (n_out_1+1) bQ) ar fun eP bA cJ cK=>?_
  replace ⟨O,ai,aw,C,aa⟩:=(so [ah,bw,aG,ag,af,ae] bA).g5 O ai aw C aa
  exact .d<|.ib 1<|.g<|.r 1<|.it ((j:Int)+1)<|.r 1<|.d<|aJ (j+1,(am++[(j:Int)]),aG,n_out_0+1,bO,(ao++[(CP (BQ a (j:Int)) (BQ b (j:Int))).1]),bw,n_out_1+1,bQ) _ _ ⟨AA,AA,AA,AA,AA,trivial⟩ ⟨aa,ai,cx,aw,cI,cH,cJ,AB,AB,AB,AB,(by exact TF ‹_› ‹_› AB ‹_› ‹_› ‹_›),(by exact TH ‹_› ‹_› AB ‹_› ‹_› ‹_›),(by exact M7 ‹_› AB ‹_›)⟩ (by (simp only []; omega))
 refine .d<|.cf<|.x 0 rfl<|.s<|.g<|.ln ac<|.sc [vS r_out_0 n_out_0 c_out_0,vS r_out_1 n_out_1 c_out_1] O fun bR bB cL cM=>?_
 replace ⟨ab,W,C⟩:=(so [ah,r_out_1,r_out_0,ag,af,ae] bB).g3 ab W C
 refine .r 1<|.d ?_
 have bC:=ab.sl bY
 replace W:=(sd bR [ah,r_out_1,r_out_0,ag,af,ae] r_out_0).g1 W
 have dp:=W.sl b0
 replace bC:=(sd bR [ah,r_out_1,ag,af,ae] r_out_1).g1 bC
 exact .r2 Tryz.func32 Tryz.results32 (.bx cL) (.t (.bool true)) ⟨⟨_,(CS rfl (congrArg Value.bool (by exact (Oz (k:=j) AB ‹_› ‹_› ‹_› ‹_› ‹_›).2))),(VS.of (y:=(⟨am,ao⟩:Prt)) ⟨_,rfl,⟨_,_,_,_,_,_,rfl,bC.w1,dp.w1⟩⟩ (by exact (Oz (k:=j) AB ‹_› ‹_› ‹_› ‹_› ‹_›).1))⟩,C⟩
end Go.Proofs.YtganlmloonielaaGreat
namespace Go.Proofs.YtganlmloonielaaGreat
theorem T6 {d:Dsk} {a:Int} (h:Af d=true) (h1:inR a 0 ((d.list.length:Int) - 2)=false∨Ej d=true):[]=AT d a:=by
 rw [IK h,Hq]
 rcases h1 with h1 | h1
 ·exact .inl h1
 ·rcases O5 h1 with h1 | h1
  ·exact .inr (.inl AB)
  ·exact .inr (.inr AB)
theorem LX {d:Dsk} {n:Int} (hn:n∈d.list):BD d n∈(Ai d).parts:=by
 show _∈d.list.map (BD d)
 exact List.mem_map.2 ⟨n,hn,rfl⟩
theorem R2 {d:Dsk} {at_ a b:Int} {f g:Fil} (hd:DD d) (h:Af d=true) (h1:inR at_ 0 ((d.list.length:Int) - 2)=true) (h2:Ej d=false) (ha:d.list[at_.toNat]? = some a) (hb:d.list[(at_+1).toNat]? = some b) (hf:d.files[(Ao d a).toNat]? = some f) (hg:d.files[(Ao d b).toNat]? = some g) :
 [⟨1,d.next,(Bu f.part g.part).1,[],[]⟩,⟨2,0,⟨[],[]⟩,(([]++(d.list.take at_.toNat).drop 0)++[d.next])++(d.list.take d.list.length).drop (at_+2).toNat,d.names⟩,⟨3,a,⟨[],[]⟩,[],[]⟩,⟨3,b,⟨[],[]⟩,[],[]⟩]=AT d at_:=by
 have hx:=O4 h2
 have hk:=CU h
 have:=hd.nf
 have hs:=hd.sd h
 have hso:=(EO h).2.1
 have e:=KZ hs hso (LX (AQ ha)) (LX (AQ hb))
 rw [Dp hf,Dp hg] at e
 rw [e,IK h,K6 h1 AB AB ha hb hf hg]
end Go.Proofs.YtganlmloonielaaGreat
namespace Go.Proofs.YtganlmloonielaaGreat
set_option maxRecDepth 100000
set_option maxHeartbeats 4000000
theorem EB (d:Dsk) (at_:Int) {w:World} {F:Nat→Prop} {a1:Option Addr} {n1 c1:Nat} (h1:RepS w F a1 n1 c1 d.files) {a2:Option Addr} {n2 c2:Nat} (h2:RepS w F a2 n2 c2 d.list) {a3:Option Addr} {n3 c3:Nat} (h3:RepS w F a3 n3 c3 d.names) (p0:DD d):Calls Tryz.prog 29 [.agg #[.slice a1 n1 c1,.slice a2 n2 c2,.slice a3 n3 c3,.int .i64 d.next],.int .i64 at_].toArray w (As fun rv w'=>VL (ge w.heap.size) w' (AT d at_:List Stp) rv∧Ext w w'):=by
 refine goT Tryz.func29 ?_
 obtain ⟨rfl,hQ,h1⟩:=h1.tp
 obtain ⟨rfl,hV,h2⟩:=h2.tp
 obtain ⟨rfl,hW,h3⟩:=h3.tp
 refine .s<|.g<|.np 27 [.slice a1 d.files.length c1,.slice a2 d.list.length c2,.slice a3 d.names.length c3,vI d.next] fun ae fV dv bY C fg=>?_
 replace ⟨h1,h2,h3⟩:=(sn [] bY dv).g3 h1 h2 h3
 have E:=bY
 refine .r 1<|.d<|.s<|.s<|.g<|.ln C<|.cl (Bs d h1.ta h2.ta h3.ta p0 (w:=fV) (F:=all)) ?_
 rintro jE fW ⟨rfl,dw⟩
 replace ⟨h1,h2,h3,C,E⟩:=(se [ae] dw).g5 h1 h2 h3 C E
 cases ia:(Af d)
 ·refine .r 14<|.d<|.ct<|.s<|.g<|.ns 0 44 [] fun bZ fh bL dx fi fj=>?_
  have ic:=AS bL C.lt
  have fk:=Ad bL E.size
  replace ⟨h1,h2,h3,C,E⟩:=(sn [ae] dx bL).g5 h1 h2 h3 C E
  have fm:Own (α:=Stp) fh bZ 44 (nin (ge w.heap.size) [bZ,ae]) 0 0 []:=Own.Ag fi
  refine .r 1<|.d ?_
  have fX:=fm.sl fk
  replace ⟨h1,h2,h3⟩:=(sd fh [bZ,ae] bZ).g3 h1 h2 h3
  exact .rt Tryz.func29 Tryz.results29 (vS bZ 0 0) ⟨(fX.vl (by exact (IL ‹_›).symm) (fun _ _ h=>h.1)),E⟩
 refine .r 4<|.lb C<|.r 1<|RG.int ((d.list.length:Int) - 2) AA (by have:=p0.nl; omega)<|.cl (CM at_ 0 ((d.list.length:Int) - 2) (w:=fW) (F:=all)) ?_
 rintro jF fY ⟨rfl,dy⟩
 replace ⟨h1,h2,h3,C,E⟩:=(se [ae] dy).g5 h1 h2 h3 C E
 cases dz:(inR at_ 0 ((d.list.length:Int) - 2))
 ·have ie:=Ex dz
  refine .r 6<|.d<|.ct<|.s<|.g<|.ns 0 44 [] fun b0 fp bM dA fq ft=>?_
  have ig:=AS bM C.lt
  have fu:=Ad bM E.size
  replace ⟨h1,h2,h3,C,E⟩:=(sn [ae] dA bM).g5 h1 h2 h3 C E
  have fv:Own (α:=Stp) fp b0 44 (nin (ge w.heap.size) [b0,ae]) 0 0 []:=Own.Ag fq
  refine .r 1<|.d ?_
  have fZ:=fv.sl fu
  replace ⟨h1,h2,h3⟩:=(sd fp [b0,ae] b0).g3 h1 h2 h3
  exact .rt Tryz.func29 Tryz.results29 (vS b0 0 0) ⟨(fZ.vl (by exact T6 ‹_› (.inl ‹_›)) (fun _ _ h=>h.1)),E⟩
 have ii:=CN dz
 refine .r 3<|.ln C<|.cl (Fp d h1.ta h2.ta h3.ta (w:=fY) (F:=all)) ?_
 rintro jG jH ⟨rfl,dB⟩
 replace ⟨h1,h2,h3,C,E⟩:=(se [ae] dB).g5 h1 h2 h3 C E
 cases ij:(Ej d)
 ·refine .r 1<|.d<|.cf<|.sk<|.s<|.gd nil 12 fun jI dC=>?_
  replace ⟨h1,h2,h3,C,E⟩:=(se [ae] dC).g5 h1 h2 h3 C E
  refine .r [0]<|.lb 1 C id<|.r [2] ?_
  have dD:(at_).toNat< d.list.length:=AB
  refine GA.idx (i:=3) ((at_).toNat) (len:=d.list.length) (z:=at_) (sz:=1) AA AB dD (h2.addr (Nat.zero_lt_of_lt dD)) ?_
  obtain ⟨aV,b7⟩:∃ y,d.list[(at_).toNat]? = some y:=⟨_,AP AB⟩
  have ik:=AX b7; have fS:=AQ b7
  obtain ⟨_,rfl,fw⟩:=h2.elem ((at_).toNat) aV b7
  refine .lh 4 0 fw id<|.r [5]<|.lb 6 C id<|.r [7]<|GA.int (i:=8) (at_+1) AA (by have:=p0.nl; omega) ?_
  have dE:(at_+1).toNat< d.list.length:=AB
  refine GA.idx (i:=9) ((at_+1).toNat) (len:=d.list.length) (z:=at_+1) (sz:=1) AA AB dE (h2.addr (Nat.zero_lt_of_lt dE)) ?_
  obtain ⟨aW,b8⟩:∃ y,d.list[(at_+1).toNat]? = some y:=⟨_,AP AB⟩
  have il:=AX b8; have fT:=AQ b8
  obtain ⟨_,rfl,fz⟩:=h2.elem ((at_+1).toNat) aW b8
  refine .lh 10 0 fz id<|.r [11]<|.d fun bV dF=>?_
  replace ⟨h1,h2,h3,C,E⟩:=(se [ae] dF).g5 h1 h2 h3 C E
  refine .r 1<|.d<|.s ?_
  replace h1:=h1.Ah
  replace h2:=h2.Ah
  replace h3:=h3.Ah
  have bN:Gb (ae+1) bV.heap.size:=C.lt
  refine .gd (mtb [] bV.heap.size) 22 fun f0 b9=>?_
  replace ⟨h1,h2,h3,C,E⟩:=(se [ae] b9).g5 h1 h2 h3 C E
  have au:Chg (mtb [] bV.heap.size) bV f0:=Chg.Cc (Chg.refl (mtb [] bV.heap.size) bV) b9
  refine .r [0]<|.lb 1 C (Ax all_nil bN)<|.ln 2 C (Ax all_nil bN)<|.r [3]<|GA.Bz (i:=4) AA (fun f5 cd=>Cs d aV (h1.JQ cd all_nil) (h2.JQ cd all_nil) (h3.JQ cd all_nil) (w:=f5) (F:=all)) ?_
  have dG:(Ao d aV).toNat< d.files.length:=(by exact (FM (Cr (CU ‹_›).2.2.2 _ ‹_›)).1)
  refine GA.idx (i:=5) ((Ao d aV).toNat) (len:=d.files.length) (z:=Ao d aV) (sz:=3) AA (by exact (FM (Cr (CU ‹_›).2.2.2 _ ‹_›)).2) dG (h1.addr (Nat.zero_lt_of_lt dG))<|.r [6] ?_
  obtain ⟨aA,bO⟩:∃ y,d.files[(Ao d aV).toNat]? = some y:=⟨_,AP AB⟩
  have im:=AX bO; have fU:=AQ bO
  obtain ⟨_,⟨io,ip,iq,ir,iu,iw,rfl,J,O⟩,dH⟩:=h1.elem ((Ao d aV).toNat) aA bO
  have dI:=J.len
  subst dI
  have f6:=J.max
  have dJ:=O.len
  subst dJ
  have f7:=O.max
  refine .lg 7 1 dH (h1.nS (Dt bO) all_nil)<|.r [8]<|.lb 9 C (Ax all_nil bN)<|.ln 10 C (Ax all_nil bN)<|.r [11]<|GA.Bz (i:=12) AA (fun fA bj=>Cs d aW (h1.JQ bj all_nil) (h2.JQ bj all_nil) (h3.JQ bj all_nil) (w:=fA) (F:=all)) ?_
  have ce:(Ao d aW).toNat< d.files.length:=(by exact (FM (Cr (CU ‹_›).2.2.2 _ ‹_›)).1)
  refine GA.idx (i:=13) ((Ao d aW).toNat) (len:=d.files.length) (z:=Ao d aW) (sz:=3) AA (by exact (FM (Cr (CU ‹_›).2.2.2 _ ‹_›)).2) ce (h1.addr (Nat.zero_lt_of_lt ce))<|.r [14] ?_
  obtain ⟨ao,bh⟩:∃ y,d.files[(Ao d aW).toNat]? = some y:=⟨_,AP AB⟩
  have f8:=AX bh; have fB:=AQ bh
  obtain ⟨_,⟨iy,iz,iA,iB,iC,iD,rfl,W,aa⟩,dK⟩:=h1.elem ((Ao d aW).toNat) ao bh
  have dL:=W.len
  subst dL
  have f9:=W.max
  have dM:=aa.len
  subst dM
  have ga:=aa.max
  refine .lg 15 1 dK (h1.nS (Dt bh) all_nil)<|.tw 16 20 ?_ ?_
  ·refine .cl (fun cg aO=>DR aA.part ao.part (J.ta.ext aO) (O.ta.ext aO) (W.ta.ext aO) (aa.ta.ext aO) (by exact (p0.file _ ‹_›).sz) (by exact (p0.file _ ‹_›).sz) (w:=cg) (F:=all)) ?_
   intro cg aO
   replace ⟨h2,h3,C,J,O,W,aa,E,au⟩:=(se [ae] aO).g9 h2 h3 C J O W aa E au
   rintro iE iF ⟨⟨iG,rfl,⟨_,rfl,⟨ci,iH,cj,ck,iI,cm,rfl,ab,ac⟩⟩⟩,bk⟩
   have bm:=al1 C.lt
   have co:Gb w.heap.size cg.heap.size:=E.size
   have hkeep_:=bk
   replace ⟨h2,h3,C,J,O,W,aa,E,au⟩:=(se [ae] bk).g9 h2 h3 C J O W aa E au
   refine ⟨Ext.chg hkeep_,?_⟩
   have ab:=ab.fr bm co
   have gb:=ab.max
   have ac:=ac.fr bm co
   have gf:=ac.max
   have dN:=ab.len
   subst dN
   have dO:=ac.len
   subst dO
   refine .r [17,18,19]<|.go 20<|.nw (fun b=>.pointer (some ⟨b,0,none⟩)) 42 [.slice none 0 0,.slice none 0 0] fun iJ cp=>?_
   replace ⟨h2,h3,C,J,O,W,aa,ab,ac,E,au⟩:=(se [ae] cp).g11 h2 h3 C J O W aa ab ac E au
   intro aj iK aX cq dP dQ
   have gh:=AS aX C.lt
   have gi:=E.cn aX
   have dR:=au.cn aX
   replace ⟨h2,h3,C,J,O,W,aa,ab,ac,E,au⟩:=(sn [ae] cq aX).g11 h2 h3 C J O W aa ab ac E au
   refine .go 21<|GE.CK (t':=42) (o:=0) (v:=.agg #[.slice ci ((((Bu aA.part ao.part).1).ids).length) cj,.slice ck ((((Bu aA.part ao.part).1).blocks).length) cm]) [.slice ci ((((Bu aA.part ao.part).1).ids).length) cj,.slice ck ((((Bu aA.part ao.part).1).blocks).length) cm] dP AA AA AA fun iL cr=>?_
   replace ⟨h2,h3,C,J,O,W,aa,ab,ac,E,au⟩:=(se [aj,ae] cr).g11 h2 h3 C J O W aa ab ac E au
   intro iM bn af dS
   have hkeep_:=Chg.toS bn (Cov.toS dR)
   replace ⟨h2,h3,C,J,O,W,aa,ab,ac,E,au⟩:=(so [aj,ae] bn).g11 h2 h3 C J O W aa ab ac E au
   refine ⟨hkeep_,?_⟩
   refine .d fun iN cu=>?_
   replace ⟨h2,h3,C,J,O,W,aa,ab,ac,af,E,au⟩:=(se [aj,ae] cu).g12 h2 h3 C J O W aa ab ac af E au
   replace h2:=h2.AU
   replace h3:=h3.AU
   replace J:=J.AU
   replace O:=O.AU
   replace W:=W.AU
   replace aa:=aa.AU
   refine .r 1<|.d<|.s<|.g<|.ns 0 3 [] fun bP fC aP cv dT dU=>?_
   have dV:=AS aP C.lt
   have dW:=AS aP af.lt
   have dX:=Ad aP E.size
   have dY:=E.cn aP
   replace ⟨h2,h3,C,J,O,W,aa,ab,ac,af,E⟩:=(sn [aj,ae] cv aP).g11 h2 h3 C J O W aa ab ac af E
   have dZ:Own (α:=Int) fC bP 3 (nin (ge w.heap.size) [bP,aj,ae]) 0 0 []:=Own.Ag dT
   refine .r 1<|.lb C<|.r 1<|RG.sub (t:=24) (lo:=none) (hi:=some (vI at_)) h2 0 ((at_).toNat) AA AA (.inl ⟨rfl,rfl⟩) (.inr ⟨_,_,rfl,by omega⟩) (by have:=p0.nl; omega) (by have:=p0.nl; omega) fun iO iP cw=>?_
   have gj:=cw.len; have gk:=cw.max
   refine RG.Ay (T:=24) (ty:=24) BF dZ cw AA AA (fun b h e=>h.2 (e▸AD)) (by have:=p0.nl; omega) fun ax fD bQ aq aC cx=>?_
   have bo:=Ae aC dV C.lt
   have d0:=Ae aC dW af.lt
   have d3:=Bt aC dX E.size
   have d4:=Am aC dY E.size
   replace ⟨h2,h3,C,J,O,W,aa,ab,ac,af,E⟩:=(sa [bP,aj,ae] cx aC).g11 h2 h3 C J O W aa ab ac af E
   replace aq:=aq.rn bP
   have gl:=aq.len; have gm:=aq.max
   refine .r 1<|.d<|.s ?_
   replace h2:=h2.Ah
   replace h3:=h3.Ah
   replace J:=J.Ah
   replace O:=O.Ah
   replace W:=W.Ah
   replace aa:=aa.Ah
   replace ab:=ab.Ah
   replace ac:=ac.Ah
   have cy:Gb (ae+1) bQ.heap.size:=C.lt
   have d5:Cov (mtb [ax] bQ.heap.size) bQ ax:=⟨.inl (.inl AD)⟩
   refine .gd (mtb [ax] bQ.heap.size) 10 fun iQ cz=>?_
   replace ⟨h2,h3,C,J,O,W,aa,ab,ac,af,aq,E⟩:=(se [ax,aj,ae] cz).g12 h2 h3 C J O W aa ab ac af aq E
   refine .r [0,1]<|.lb 2 C (Ax (all_cons (Nb.symm bo) all_nil) cy)<|.r [5]<|.lb 6 C (Ax (all_cons (Nb.symm bo) all_nil) cy)<|.r [7]<|GA.int (i:=8) (at_+2) AA (by have:=p0.nl; omega)<|GA.sub (i:=9) (t:=24) (lo:=some (vI (at_+2))) (hi:=none) AA h2 ((at_+2).toNat) d.list.length AA AA (.inr ⟨_,_,rfl,by omega⟩) (.inl ⟨rfl,rfl⟩) (by have:=p0.nl; omega) (by have:=p0.nl; omega) fun iR iS ay=>?_
   have gn:=ay.len; have gp:=ay.max
   refine .go 3<|.ns 1 3 [vI d.next] fun iT bq=>?_
   replace ⟨h2,h3,C,J,O,W,aa,ab,ac,af,aq,ay⟩:=(se [ax,aj,ae] bq).g12 h2 h3 C J O W aa ab ac af aq ay
   replace E:=(se [ax,aj,ae] bq).g1 E
   intro cA iU aY br bt d6
   have d7:=AS aY C.lt
   have d8:=AS aY af.lt
   have cB:=AS aY aq.lt
   have d9:=Ad aY E.size
   replace ⟨h2,h3,C,J,O,W,aa,ab,ac,af,aq,ay⟩:=(se [ax,aj,ae] br).g12 h2 h3 C J O W aa ab ac af aq ay
   replace E:=(se [ax,aj,ae] br).g1 E
   refine .go 4<|GE.append (T:=24) (ty:=24) (args:=[vS ax (0+((at_).toNat - 0)) fD,vS cA 1 1]) AA fun iV bu=>?_
   replace ⟨h2,h3,C,J,O,W,aa,ab,ac,af,aq,ay⟩:=(se [ax,aj,ae] bu).g12 h2 h3 C J O W aa ab ac af aq ay
   replace ⟨bt,E⟩:=(se [ax,aj,ae] bu).g2 bt E
   have bW:nin (ge w.heap.size) [ax,aj,ae] cA∧cA≠ax:=BG d9 (all_cons cB (all_cons d8 (all_cons d7 all_nil))) cB
   obtain ⟨bR,iW,iX,cC,aH,aD,bv,ec⟩:=aq.Ap (P:=Tryz.prog) (T:=24) (ty:=24) (y:=d.next) AA bt rfl bW (by have:=p0.nl; omega)
   refine ⟨_,_,cC,Chg.toS bv (Cov.toS d5),?_⟩
   have ed:=Ae aD bo C.lt
   have ee:=Ae aD d0 af.lt
   have ef:=Bt aD d3 E.size
   have gq:=Am aD d4 E.size
   replace ⟨h2,h3,C,J,O,W,aa,ab,ac,af,ay,E⟩:=(sa [ax,aj,ae] bv aD).g12 h2 h3 C J O W aa ab ac af ay E
   replace aH:=aH.rn ax
   have gr:=aH.len; have gs:=aH.max
   refine .d fun iY bw=>?_
   replace ⟨h2,h3,C,J,O,W,aa,ab,ac,af,aH,ay⟩:=(se [bR,aj,ae] bw).g12 h2 h3 C J O W aa ab ac af aH ay
   replace E:=(se [bR,aj,ae] bw).g1 E
   replace h2:=h2.AU
   replace h3:=h3.AU
   replace J:=J.AU
   replace O:=O.AU
   replace W:=W.AU
   replace aa:=aa.AU
   replace ab:=ab.AU
   replace ac:=ac.AU
   replace ay:=ay.AU
   refine RG.Ay (T:=24) (ty:=24) BF aH ay AA AA (fun b h e=>h.2 (e▸AD)) (by have:=p0.nl; omega) fun aG fE iZ al aL cD=>?_
   have gt:=Ae aL ed C.lt
   have gu:=Ae aL ee af.lt
   have eg:=Bt aL ef E.size
   replace ⟨h2,h3,C,J,O,W,aa,ab,ac,af,E⟩:=(sa [bR,aj,ae] cD aL).g11 h2 h3 C J O W aa ab ac af E
   replace al:=al.rn bR
   have gv:=al.len; have gw:=al.max
   refine .r 1<|.d<|.s<|.gd nil 13 fun ja cE=>?_
   replace ⟨h2,h3,C,J,O,W,aa,ab,ac,af,al,E⟩:=(se [aG,aj,ae] cE).g12 h2 h3 C J O W aa ab ac af al E
   refine .r [0]<|.lb 1 C id<|.ln 2 af id<|.r [3,4,5]<|.lb 6 C id<|.r [9,10,11,12]<|.go 7<|.cl (fun cF bz=>Aj d.names (h3.ta.ext bz) (by have:=p0.g.len; omega) (by (intro n hn; have:=(p0.g.sz n hn).1; omega)) (w:=cF) (F:=all)) ?_
   intro cF bz
   replace ⟨h2,h3,C,J,O,W,aa,ab,ac,af,al,E⟩:=(se [aG,aj,ae] bz).g12 h2 h3 C J O W aa ab ac af al E
   rintro jb jc ⟨⟨aZ,fF,fG,rfl,av,aQ⟩,bA⟩
   have cG:=al3 al.lt af.lt C.lt
   have eh:Gb w.heap.size cF.heap.size:=E.size
   have hkeep_:=bA
   have gx:=Ab aQ C.lt
   have gy:=Ab aQ af.lt
   have gz:=Ab aQ al.lt
   have ej:=Bd aQ E.size
   replace ⟨h2,h3,C,J,O,W,aa,ab,ac,af,al,E⟩:=(sz [aG,aj,ae] bA aQ).g12 h2 h3 C J O W aa ab ac af al E
   refine ⟨Ext.chg hkeep_,?_⟩
   replace av:=Own.take (s0:=w.heap.size) (M:=[aG,aj,ae]) av cG eh
   have gA:=av.len; have gC:=av.max
   refine .r [8]<|.d fun jd bB=>?_
   replace ⟨h2,h3,C,J,O,W,aa,ab,ac,af,al,av⟩:=(se [aZ,aG,aj,ae] bB).g12 h2 h3 C J O W aa ab ac af al av
   replace E:=(se [aZ,aG,aj,ae] bB).g1 E
   refine .ns 4 44 [vI 1,vI d.next,.slice ci ((((Bu aA.part ao.part).1).ids).length) cj,.slice ck ((((Bu aA.part ao.part).1).blocks).length) cm,.slice none 0 0,.slice none 0 0,vI 2,vI 0,.slice none 0 0,.slice none 0 0,vS aG (0+((at_).toNat - 0)+1+(d.list.length - (at_+2).toNat)) fE,vS aZ fF fG,vI 3,vI aV,.slice none 0 0,.slice none 0 0,.slice none 0 0,.slice none 0 0,vI 3,vI aW,.slice none 0 0,.slice none 0 0,.slice none 0 0,.slice none 0 0] fun ba bS aI cH ek en=>?_
   have gD:=AS aI C.lt
   have gE:=AS aI af.lt
   have gF:=AS aI al.lt
   have gG:=AS aI av.lt
   have et:=Ad aI E.size
   replace ⟨h2,h3,C,J,O,W,aa,ab,ac,al,av,E⟩:=(sn [aZ,aG,aj,ae] cH aI).g12 h2 h3 C J O W aa ab ac al av E
   have cI:=al.sl eg
   replace ⟨h2,h3,J,O,W,aa,ab,ac,av⟩:=(sd bS [ba,aZ,aG,aj,ae] aG).g9 h2 h3 J O W aa ab ac av
   have fH:=av.sl ej
   replace ⟨h2,h3,J,O,W,aa,ab,ac,cI⟩:=(sd bS [ba,aZ,aj,ae] aZ).g9 h2 h3 J O W aa ab ac cI
   have ey:Own (α:=Stp) bS ba 44 (nin (ge w.heap.size) [ba,aj,ae]) 4 4 [(⟨1,d.next,(⟨((Bu aA.part ao.part).1).ids,((Bu aA.part ao.part).1).blocks⟩:Prt),([]:List Int),([]:List (List Tag))⟩:Stp),(⟨2,0,(⟨([]:List Int),([]:List (List Row))⟩:Prt),((([]++((d.list.take ((at_).toNat)).drop 0))++[d.next])++((d.list.take d.list.length).drop ((at_+2).toNat))),d.names⟩:Stp),(⟨3,aV,(⟨([]:List Int),([]:List (List Row))⟩:Prt),([]:List Int),([]:List (List Tag))⟩:Stp),(⟨3,aW,(⟨([]:List Int),([]:List (List Row))⟩:Prt),([]:List Int),([]:List (List Tag))⟩:Stp)]:=Own.lit ek rfl (by decide) ⟨⟨_,_,_,_,_,_,_,_,_,_,_,_,rfl,ab.oi,ac.oi,(RepS.Ag _ _ none 0 (by decide)),(RepS.Ag _ _ none 0 (by decide))⟩,⟨_,_,_,_,_,_,_,_,_,_,_,_,rfl,(RepS.Ag _ _ none 0 (by decide)),(RepS.Ag _ _ none 0 (by decide)),cI.oi,fH.oi⟩,⟨_,_,_,_,_,_,_,_,_,_,_,_,rfl,(RepS.Ag _ _ none 0 (by decide)),(RepS.Ag _ _ none 0 (by decide)),(RepS.Ag _ _ none 0 (by decide)),(RepS.Ag _ _ none 0 (by decide))⟩,⟨_,_,_,_,_,_,_,_,_,_,_,_,rfl,(RepS.Ag _ _ none 0 (by decide)),(RepS.Ag _ _ none 0 (by decide)),(RepS.Ag _ _ none 0 (by decide)),(RepS.Ag _ _ none 0 (by decide))⟩,rfl⟩
   refine .r 1<|.d ?_
   have fI:=ey.sl et
   replace ⟨h2,h3,J,O,W,aa⟩:=(sd bS [ba,aj,ae] ba).g6 h2 h3 J O W aa
   exact .rt Tryz.func29 Tryz.results29 (vS ba 4 4) ⟨(fI.vl (by exact R2 p0 ‹_› ‹_› ‹_› ‹_› ‹_› ‹_› ‹_›) (fun _ _ h=>h.1)),E⟩
  refine .nw (fun b=>.pointer (some ⟨b,0,none⟩)) 42 [.slice none 0 0,.slice none 0 0] fun je cJ=>?_
  replace ⟨h2,h3,C,J,O,W,aa,E,au⟩:=(se [ae] cJ).g9 h2 h3 C J O W aa E au
  intro ak jf bc cK aR ez
  have gH:=AS bc C.lt
  have gI:=E.cn bc
  have eA:=au.cn bc
  replace ⟨h2,h3,C,J,O,W,aa,E⟩:=(sn [ae] cK bc).g8 h2 h3 C J O W aa E
  refine .go 16<|.cl (fun cL aS=>DR aA.part ao.part (J.ta.ext aS) (O.ta.ext aS) (W.ta.ext aS) (aa.ta.ext aS) (by exact (p0.file _ ‹_›).sz) (by exact (p0.file _ ‹_›).sz) (w:=cL) (F:=all)) ?_
  intro cL aS
  replace ⟨h2,h3,C,aR,E⟩:=(se [ak,ae] aS).g5 h2 h3 C aR E
  rintro jg jh ⟨⟨ji,rfl,⟨_,rfl,⟨cM,jj,cN,cO,jk,cP,rfl,ah,ai⟩⟩⟩,bC⟩
  have bD:=al2 aR.lt C.lt
  have cQ:Gb w.heap.size cL.heap.size:=E.size
  have hkeep_:=bC
  replace ⟨h2,h3,C,aR,E⟩:=(se [ak,ae] bC).g5 h2 h3 C aR E
  refine ⟨Ext.chg hkeep_,?_⟩
  have ah:=ah.fr bD cQ
  have gJ:=ah.max
  have ai:=ai.fr bD cQ
  have gK:=ai.max
  have eB:=ah.len
  subst eB
  have eC:=ai.len
  subst eC
  refine .r [17,18,19]<|.go 21<|GE.CK (t':=42) (o:=0) (v:=.agg #[.slice cM ((((Bu aA.part ao.part).1).ids).length) cN,.slice cO ((((Bu aA.part ao.part).1).blocks).length) cP]) [.slice cM ((((Bu aA.part ao.part).1).ids).length) cN,.slice cO ((((Bu aA.part ao.part).1).blocks).length) cP] aR AA AA AA fun jl cR=>?_
  replace ⟨h2,h3,C,ah,ai,E⟩:=(se [ak,ae] cR).g6 h2 h3 C ah ai E
  intro jm bE ag eD
  have hkeep_:=Chg.toS bE (Cov.toS eA)
  replace ⟨h2,h3,C,ah,ai,E⟩:=(so [ak,ae] bE).g6 h2 h3 C ah ai E
  refine ⟨hkeep_,?_⟩
  refine .d fun jn cS=>?_
  replace ⟨h2,h3,C,ag,ah,ai,E⟩:=(se [ak,ae] cS).g7 h2 h3 C ag ah ai E
  replace h2:=h2.AU
  replace h3:=h3.AU
  refine .r 1<|.d<|.s<|.g<|.ns 0 3 [] fun bT fJ aT cT eE eF=>?_
  have eG:=AS aT C.lt
  have eH:=AS aT ag.lt
  have eI:=Ad aT E.size
  have eJ:=E.cn aT
  replace ⟨h2,h3,C,ag,ah,ai,E⟩:=(sn [ak,ae] cT aT).g7 h2 h3 C ag ah ai E
  have eK:Own (α:=Int) fJ bT 3 (nin (ge w.heap.size) [bT,ak,ae]) 0 0 []:=Own.Ag eE
  refine .r 1<|.lb C<|.r 1<|RG.sub (t:=24) (lo:=none) (hi:=some (vI at_)) h2 0 ((at_).toNat) AA AA (.inl ⟨rfl,rfl⟩) (.inr ⟨_,_,rfl,by omega⟩) (by have:=p0.nl; omega) (by have:=p0.nl; omega) fun jo jp cU=>?_
  have gL:=cU.len; have gM:=cU.max
  refine RG.Ay (T:=24) (ty:=24) BF eK cU AA AA (fun b h e=>h.2 (e▸AD)) (by have:=p0.nl; omega) fun aB fK bU ar aE cV=>?_
  have bF:=Ae aE eG C.lt
  have eL:=Ae aE eH ag.lt
  have eM:=Bt aE eI E.size
  have eN:=Am aE eJ E.size
  replace ⟨h2,h3,C,ag,ah,ai,E⟩:=(sa [bT,ak,ae] cV aE).g7 h2 h3 C ag ah ai E
  replace ar:=ar.rn bT
  have gN:=ar.len; have gO:=ar.max
  refine .r 1<|.d<|.s ?_
  replace h2:=h2.Ah
  replace h3:=h3.Ah
  replace ah:=ah.Ah
  replace ai:=ai.Ah
  have cW:Gb (ae+1) bU.heap.size:=C.lt
  have eO:Cov (mtb [aB] bU.heap.size) bU aB:=⟨.inl (.inl AD)⟩
  refine .gd (mtb [aB] bU.heap.size) 10 fun jq cX=>?_
  replace ⟨h2,h3,C,ag,ah,ai,ar,E⟩:=(se [aB,ak,ae] cX).g8 h2 h3 C ag ah ai ar E
  refine .r [0,1]<|.lb 2 C (Ax (all_cons (Nb.symm bF) all_nil) cW)<|.r [5]<|.lb 6 C (Ax (all_cons (Nb.symm bF) all_nil) cW)<|.r [7]<|GA.int (i:=8) (at_+2) AA (by have:=p0.nl; omega)<|GA.sub (i:=9) (t:=24) (lo:=some (vI (at_+2))) (hi:=none) AA h2 ((at_+2).toNat) d.list.length AA AA (.inr ⟨_,_,rfl,by omega⟩) (.inl ⟨rfl,rfl⟩) (by have:=p0.nl; omega) (by have:=p0.nl; omega) fun jr js az=>?_
  have gP:=az.len; have gQ:=az.max
  refine .go 3<|.ns 1 3 [vI d.next] fun jt cY=>?_
  replace ⟨h3,C,ag,ah,ai,ar,az,E⟩:=(se [aB,ak,ae] cY).g8 h3 C ag ah ai ar az E
  intro cZ ju bd c7 bG eP
  have eQ:=AS bd C.lt
  have eR:=AS bd ag.lt
  have c8:=AS bd ar.lt
  have eS:=Ad bd E.size
  replace ⟨h3,C,ag,ah,ai,ar,az,E⟩:=(se [aB,ak,ae] c7).g8 h3 C ag ah ai ar az E
  refine .go 4<|GE.append (T:=24) (ty:=24) (args:=[vS aB (0+((at_).toNat - 0)) fK,vS cZ 1 1]) AA fun jv c9=>?_
  replace ⟨h3,C,ag,ah,ai,ar,az,bG,E⟩:=(se [aB,ak,ae] c9).g9 h3 C ag ah ai ar az bG E
  have bX:nin (ge w.heap.size) [aB,ak,ae] cZ∧cZ≠aB:=BG eS (all_cons c8 (all_cons eR (all_cons eQ all_nil))) c8
  obtain ⟨da,jw,jx,db,aJ,aF,bH,eT⟩:=ar.Ap (P:=Tryz.prog) (T:=24) (ty:=24) (y:=d.next) AA bG rfl bX (by have:=p0.nl; omega)
  refine ⟨_,_,db,Chg.toS bH (Cov.toS eO),?_⟩
  have eU:=Ae aF bF C.lt
  have eV:=Ae aF eL ag.lt
  have eW:=Bt aF eM E.size
  have gR:=Am aF eN E.size
  replace ⟨h3,C,ag,ah,ai,az,E⟩:=(sa [aB,ak,ae] bH aF).g7 h3 C ag ah ai az E
  replace aJ:=aJ.rn aB
  have gS:=aJ.len; have gT:=aJ.max
  refine .d fun jy de=>?_
  replace ⟨h3,C,ag,ah,ai,aJ,az,E⟩:=(se [da,ak,ae] de).g8 h3 C ag ah ai aJ az E
  replace h3:=h3.AU
  replace ah:=ah.AU
  replace ai:=ai.AU
  replace az:=az.AU
  refine RG.Ay (T:=24) (ty:=24) BF aJ az AA AA (fun b h e=>h.2 (e▸AD)) (by have:=p0.nl; omega) fun aM fL jz am aN df=>?_
  have gU:=Ae aN eU C.lt
  have gV:=Ae aN eV ag.lt
  have eX:=Bt aN eW E.size
  replace ⟨h3,C,ag,ah,ai,E⟩:=(sa [da,ak,ae] df aN).g6 h3 C ag ah ai E
  replace am:=am.rn da
  have gW:=am.len; have gX:=am.max
  refine .r 1<|.d<|.s<|.gd nil 13 fun jA dg=>?_
  replace ⟨h3,C,ag,ah,ai,am,E⟩:=(se [aM,ak,ae] dg).g7 h3 C ag ah ai am E
  refine .r [0]<|.lb 1 C id<|.ln 2 ag id<|.r [3,4,5]<|.lb 6 C id<|.r [9,10,11,12]<|.go 7<|.cl (fun dh bI=>Aj d.names (h3.ta.ext bI) (by have:=p0.g.len; omega) (by (intro n hn; have:=(p0.g.sz n hn).1; omega)) (w:=dh) (F:=all)) ?_
  intro dh bI
  replace ⟨C,ag,ah,ai,am,E⟩:=(se [aM,ak,ae] bI).g6 C ag ah ai am E
  rintro jB jC ⟨⟨bg,fM,fN,rfl,aw,aU⟩,bJ⟩
  have dj:=al3 am.lt ag.lt C.lt
  have eY:Gb w.heap.size dh.heap.size:=E.size
  have hkeep_:=bJ
  have gY:=Ab aU C.lt
  have gZ:=Ab aU ag.lt
  have g0:=Ab aU am.lt
  have eZ:=Bd aU E.size
  replace ⟨C,ag,ah,ai,am,E⟩:=(sz [aM,ak,ae] bJ aU).g6 C ag ah ai am E
  refine ⟨Ext.chg hkeep_,?_⟩
  replace aw:=Own.take (s0:=w.heap.size) (M:=[aM,ak,ae]) aw dj eY
  have hC:=aw.len; have hD:=aw.max
  refine .r [8]<|.d fun jD dm=>?_
  replace ⟨C,ag,ah,ai,am,aw,E⟩:=(se [bg,aM,ak,ae] dm).g7 C ag ah ai am aw E
  refine .ns 4 44 [vI 1,vI d.next,.slice cM ((((Bu aA.part ao.part).1).ids).length) cN,.slice cO ((((Bu aA.part ao.part).1).blocks).length) cP,.slice none 0 0,.slice none 0 0,vI 2,vI 0,.slice none 0 0,.slice none 0 0,vS aM (0+((at_).toNat - 0)+1+(d.list.length - (at_+2).toNat)) fL,vS bg fM fN,vI 3,vI aV,.slice none 0 0,.slice none 0 0,.slice none 0 0,.slice none 0 0,vI 3,vI aW,.slice none 0 0,.slice none 0 0,.slice none 0 0,.slice none 0 0] fun bi dp aK dq e7 e8=>?_
  have hE:=AS aK C.lt
  have hH:=AS aK ag.lt
  have hJ:=AS aK am.lt
  have hN:=AS aK aw.lt
  have fa:=Ad aK E.size
  replace ⟨C,ah,ai,am,aw,E⟩:=(sn [bg,aM,ak,ae] dq aK).g6 C ah ai am aw E
  have dr:=am.sl eX
  replace ⟨ah,ai,aw⟩:=(sd dp [bi,bg,aM,ak,ae] aM).g3 ah ai aw
  have fO:=aw.sl eZ
  replace ⟨ah,ai,dr⟩:=(sd dp [bi,bg,ak,ae] bg).g3 ah ai dr
  have fb:Own (α:=Stp) dp bi 44 (nin (ge w.heap.size) [bi,ak,ae]) 4 4 [(⟨1,d.next,(⟨((Bu aA.part ao.part).1).ids,((Bu aA.part ao.part).1).blocks⟩:Prt),([]:List Int),([]:List (List Tag))⟩:Stp),(⟨2,0,(⟨([]:List Int),([]:List (List Row))⟩:Prt),((([]++((d.list.take ((at_).toNat)).drop 0))++[d.next])++((d.list.take d.list.length).drop ((at_+2).toNat))),d.names⟩:Stp),(⟨3,aV,(⟨([]:List Int),([]:List (List Row))⟩:Prt),([]:List Int),([]:List (List Tag))⟩:Stp),(⟨3,aW,(⟨([]:List Int),([]:List (List Row))⟩:Prt),([]:List Int),([]:List (List Tag))⟩:Stp)]:=Own.lit e7 rfl (by decide) ⟨⟨_,_,_,_,_,_,_,_,_,_,_,_,rfl,ah.oi,ai.oi,(RepS.Ag _ _ none 0 (by decide)),(RepS.Ag _ _ none 0 (by decide))⟩,⟨_,_,_,_,_,_,_,_,_,_,_,_,rfl,(RepS.Ag _ _ none 0 (by decide)),(RepS.Ag _ _ none 0 (by decide)),dr.oi,fO.oi⟩,⟨_,_,_,_,_,_,_,_,_,_,_,_,rfl,(RepS.Ag _ _ none 0 (by decide)),(RepS.Ag _ _ none 0 (by decide)),(RepS.Ag _ _ none 0 (by decide)),(RepS.Ag _ _ none 0 (by decide))⟩,⟨_,_,_,_,_,_,_,_,_,_,_,_,rfl,(RepS.Ag _ _ none 0 (by decide)),(RepS.Ag _ _ none 0 (by decide)),(RepS.Ag _ _ none 0 (by decide)),(RepS.Ag _ _ none 0 (by decide))⟩,rfl⟩
  refine .r 1<|.d ?_
  have fP:=fb.sl fa
  exact .rt Tryz.func29 Tryz.results29 (vS bi 4 4) ⟨(fP.vl (by exact R2 p0 ‹_› ‹_› ‹_› ‹_› ‹_› ‹_› ‹_›) (fun _ _ h=>h.1)),E⟩
 refine .r 1<|.d<|.ct<|.s<|.g<|.ns 0 44 [] fun dt fQ bK du fc fd=>?_
 have hO:=AS bK C.lt
 have fe:=Ad bK E.size
 replace E:=(se [] du).g1 E
 have ff:Own (α:=Stp) fQ dt 44 (nin (ge w.heap.size) [dt,ae]) 0 0 []:=Own.Ag fc
 refine .r 1<|.d ?_
 have fR:=ff.sl fe
 exact .rt Tryz.func29 Tryz.results29 (vS dt 0 0) ⟨(fR.vl (by exact T6 ‹_› (.inr ‹_›)) (fun _ _ h=>h.1)),E⟩
end Go.Proofs.YtganlmloonielaaGreat
