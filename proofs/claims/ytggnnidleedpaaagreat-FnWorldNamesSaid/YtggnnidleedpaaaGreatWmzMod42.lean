/- Blocks and parts merged, as the program does it: plain laws. -/
import Derived.Test.YtggnnidleedpaaaGreatWmzMod30
import Derived.Test.YtggnnidleedpaaaGreatWmzMod23
open Go.Proofs.Tryz
set_option linter.unusedVariables false
set_option linter.unusedSimpArgs false
namespace Go.Proofs.YtggnnidleedpaaaGreat
theorem IM {b:List Row}(h:Bp b=true):Blk b:=by
 unfold Bp at h
 simp only [AW] at h
 exact h.1
def CN (a b:List Row):List Row × Bool:=if Bp a=true∧Bp b=true∧¬ ((Bg a b).length:Int) > 24 then (Bg a b,true) else ([],false)
theorem Iz {a b:List Row}(h:Bp a=false∨Bp b=false):CN a b=([],false):=by
 unfold CN
 rw [if_neg]
 rintro ⟨h1,h2,_⟩
 rcases h with h | h
 ·rw [h] at h1; cases h1
 ·rw [h] at h2; cases h2
theorem Nt {a b out:List Row}(e:out=Bg a b) (_ha:Bp a=true) (_hb:Bp b=true) (h:(out.length:Int) > 24):[]=(CN a b).1∧false=(CN a b).2:=by
 subst e
 unfold CN
 rw [if_neg (fun q=>q.2.2 h)]
 exact ⟨rfl,rfl⟩
theorem Nu {a b out:List Row}(e:out=Bg a b) (ha:Bp a=true) (hb:Bp b=true) (h:¬ (out.length:Int) > 24):out=(CN a b).1∧true=(CN a b).2:=by
 subst e
 unfold CN
 rw [if_pos ⟨ha,hb,h⟩]
 exact ⟨rfl,rfl⟩
theorem P4 {a b:List Row}(h:(CN a b).2=true):(CN a b).1=Bg a b:=by
 unfold CN at h ⊢
 split at h
 ·rename_i h1; rw [if_pos h1]
 ·cases h
def okM (a b:Prt) (n:Nat):Bool:=(List.range n).all (fun i=>(CN (BV a ((i:Int)+1)) (BV b ((i:Int)+1))).2)
theorem P5 (a b:Prt) (n:Nat):okM a b (n+1)=(okM a b n&&(CN (BV a ((n:Int)+1)) (BV b ((n:Int)+1))).2):=by simp [okM,List.range_succ]
def CL (a b:Prt):Prt × Bool:=if Az a=true∧Az b=true∧okM a b 6=true then (BW a b,true) else (⟨[],[]⟩,false)
theorem I0 {a b:Prt}(h:Az a=false∨Az b=false):CL a b=(⟨[],[]⟩,false):=by
 unfold CL
 rw [if_neg]
 rintro ⟨h1,h2,_⟩
 rcases h with h | h
 ·rw [h] at h1; cases h1
 ·rw [h] at h2; cases h2
theorem Nv {a b:Prt}{k:Nat}(h1:1≤k) (h2:k≤6) (h:(CN (BV a (k:Int)) (BV b (k:Int))).2=false):CL a b=(⟨[],[]⟩,false):=by
 unfold CL
 rw [if_neg]
 rintro ⟨_,_,h3⟩
 unfold okM at h3
 rw [List.all_eq_true] at h3
 have:=h3 (k - 1) (by simp; omega)
 rw [show ((k - 1:Nat):Int)+1=(k:Int) by omega,h] at this
 cases this
theorem L8 {a b:Prt}{k:Nat}(h:okM a b (k - 1)=true) (h1:1≤k) (h2:(CN (BV a (k:Int)) (BV b (k:Int))).2=true):okM a b (k+1 - 1)=true:=by
 rw [show k+1 - 1=(k - 1)+1 by omega,P5,h,show ((k - 1:Nat):Int)+1=(k:Int) by omega,h2]
 rfl
theorem Nw {a b:Prt}(ha:Az a=true) (hb:Az b=true){k:Nat}(hk:1≤k) (h:(CN (BV a (k:Int)) (BV b (k:Int))).2=true):Be a b (k+1 - 1)=Be a b (k - 1)++[(CN (BV a (k:Int)) (BV b (k:Int))).1]:=by
 have ea:BV a (k:Int)=partOf a (k:Int):=by unfold BV; rw [if_pos ha]
 have eb:BV b (k:Int)=partOf b (k:Int):=by unfold BV; rw [if_pos hb]
 rw [show k+1 - 1=(k - 1)+1 by omega,G6,show ((k - 1:Nat):Int)+1=(k:Int) by omega,P4 h,ea,eb]
section
variable {a b:Prt} {k:Nat}
theorem Rd {o:List Int}(ha:Az a=true) (hb:Az b=true) (hk:1≤k) (h:(CN (BV a (k:Int)) (BV b (k:Int))).2=true) (e:o=(BY 0 (Be a b (k - 1))).1) (hl:((CN (BV a (k:Int)) (BV b (k:Int))).1.length:Int) > 0):o++[(k:Int)]=(BY 0 (Be a b (k+1 - 1))).1:=by
 rw [Nw ha hb hk h,C6,if_pos AB,e,DX,show ((0:Nat):Int)+((k - 1:Nat):Int)+1=(k:Int) by omega]
theorem Re {o:List Int}(ha:Az a=true) (hb:Az b=true) (hk:1≤k) (h:(CN (BV a (k:Int)) (BV b (k:Int))).2=true) (e:o=(BY 0 (Be a b (k - 1))).1) (hl:¬ ((CN (BV a (k:Int)) (BV b (k:Int))).1.length:Int) > 0):o=(BY 0 (Be a b (k+1 - 1))).1:=by
 rw [Nw ha hb hk h,C6,if_neg AB,e]
theorem Rf {o:List (List Row)}(ha:Az a=true) (hb:Az b=true) (hk:1≤k) (h:(CN (BV a (k:Int)) (BV b (k:Int))).2=true) (e:o=(BY 0 (Be a b (k - 1))).2) (hl:((CN (BV a (k:Int)) (BV b (k:Int))).1.length:Int) > 0):o++[(CN (BV a (k:Int)) (BV b (k:Int))).1]=(BY 0 (Be a b (k+1 - 1))).2:=by
 rw [Nw ha hb hk h,C6,if_pos AB,e]
theorem Rg {o:List (List Row)}(ha:Az a=true) (hb:Az b=true) (hk:1≤k) (h:(CN (BV a (k:Int)) (BV b (k:Int))).2=true) (e:o=(BY 0 (Be a b (k - 1))).2) (hl:¬ ((CN (BV a (k:Int)) (BV b (k:Int))).1.length:Int) > 0):o=(BY 0 (Be a b (k+1 - 1))).2:=by
 rw [Nw ha hb hk h,C6,if_neg AB,e]
theorem Nx {x:List Int}{y:List (List Row)}(hk:k=7) (ha:Az a=true) (hb:Az b=true) (e1:x=(BY 0 (Be a b (k - 1))).1) (e2:y=(BY 0 (Be a b (k - 1))).2) (h:okM a b (k - 1)=true):(⟨x,y⟩:Prt)=(CL a b).1∧true=(CL a b).2:=by
 subst hk e1 e2
 unfold CL
 rw [if_pos ⟨ha,hb,h⟩]
 exact ⟨rfl,rfl⟩
end
theorem KX {p:Prt}(h:Ck p) (id:Int):(BV p id).length≤1000:=by
 unfold BV
 split
 ·exact C4 h id
 ·simp
def Ba (s:Sto) (at_:Int):Sto × Bool:=if Al s then Au (Am s) at_ else (⟨⟨[],[]⟩,[],[]⟩,false)
theorem H4 {s:Sto}{i:Int}(h:Al s=false):Ba s i=(⟨⟨[],[]⟩,[],[]⟩,false):=by unfold Ba; rw [if_neg (by simp [h])]
theorem FO {s:Sto}{i:Int}(h:Al s=true):Ba s i=Au (Am s) i:=by unfold Ba; rw [if_pos h]
end Go.Proofs.YtggnnidleedpaaaGreat
namespace Go.Proofs.YtggnnidleedpaaaGreat
set_option maxRecDepth 100000
set_option maxHeartbeats 4000000
variable {w:World} {F:Nat→Prop} {a1 a2 a3 a4:Option Addr} {n1 c1 n2 c2 n3 c3 n4 c4:Nat}
theorem HO (a:List Row) (b:List Row) (h1:RepS w F a1 n1 c1 a) (h2:RepS w F a2 n2 c2 b) (p0:a.length≤1000) (p1:b.length≤1000):Calls Tryz.prog 140 [.slice a1 n1 c1,.slice a2 n2 c2].toArray w (BB fun rv w'=>(∃ v0,rv=.tuple #[v0,.bool ((CN a b).2)]∧VL (ge w.heap.size) w' ((CN a b).1:List Row) v0)∧Ext w w'):=by
 refine goT func140 ?_
 obtain ⟨rfl,bI,h1⟩:=h1.tp
 obtain ⟨rfl,bJ,h2⟩:=h2.tp
 refine .s<|.g<|.r 2<|.d<|.s<|.s<|.g<|.r 1<|.cl (Df a h1.ta (w:=w) (F:=all)) ?_
 rintro bY bB ⟨rfl,ai⟩
 replace ⟨h1,h2⟩:=(se [] ai).g2 h1 h2
 have C:=ai
 cases bK:(Bp a)
 ·refine .r 6<|.d<|.ct<|.s<|.g<|.ns 0 56 [] fun aj aV ak aA aW aX=>?_
  have aY:=Ae ak C.size
  replace ⟨h1,h2,C⟩:=(sn [] aA ak).g3 h1 h2 C
  have aZ:Own (α:=Row) aV aj 56 (nin (ge w.heap.size) [aj]) 0 0 []:=Own.Aj aW
  refine .r 2<|.d ?_
  have bC:=aZ.sl aY
  replace ⟨h1,h2⟩:=(sd aV [aj] aj).g2 h1 h2
  exact .r2 func140 results140 (.t (vS aj 0 0)) (.t (.bool false)) ⟨⟨_,(CJ rfl (AG (by exact (congrArg Prod.snd (Iz (.inl ‹_›))).symm))),(bC.vl (by exact (congrArg Prod.fst (Iz (.inl ‹_›))).symm) (fun _ _ h=>h.1))⟩,C⟩
 refine .r 3<|.cl (Df b h2.ta (w:=bB) (F:=all)) ?_
 rintro bZ b0 ⟨rfl,aB⟩
 replace ⟨h1,h2,C⟩:=(se [] aB).g3 h1 h2 C
 cases bL:(Bp b)
 ·refine .r 2<|.d<|.ct<|.s<|.g<|.ns 0 56 [] fun al ba am aC bc bd=>?_
  have bg:=Ae am C.size
  replace ⟨h1,h2,C⟩:=(sn [] aC am).g3 h1 h2 C
  have bh:Own (α:=Row) ba al 56 (nin (ge w.heap.size) [al]) 0 0 []:=Own.Aj bc
  refine .r 2<|.d ?_
  have bD:=bh.sl bg
  replace ⟨h1,h2⟩:=(sd ba [al] al).g2 h1 h2
  exact .r2 func140 results140 (.t (vS al 0 0)) (.t (.bool false)) ⟨⟨_,(CJ rfl (AG (by exact (congrArg Prod.snd (Iz (.inr ‹_›))).symm))),(bD.vl (by exact (congrArg Prod.fst (Iz (.inr ‹_›))).symm) (fun _ _ h=>h.1))⟩,C⟩
 refine .r 2<|.d<|.cf<|.sk<|.s<|.g<|.ns 0 56 [] fun ay bE af aD bi bj=>?_
 have bk:=Ae af C.size
 have bM:=C.cn af
 replace ⟨h1,h2,C⟩:=(sn [] aD af).g3 h1 h2 C
 have bm:Own (α:=Row) bE ay 56 (nin (ge w.heap.size) [ay]) 0 0 []:=Own.Aj bi
 refine .r 1<|RG.BG (T:=62) (ty:=62) Bx bm h1 AA AA (fun b h e=>h.2 (e▸AI)) AB fun aK bF aL aa ac aE=>?_
 have bn:=Bt ac bk C.size
 replace ⟨h2,C⟩:=(sa [ay] aE ac).g2 h2 C
 replace aa:=aa.rn ay
 refine .r 1<|.d<|.s<|.s<|.g<|.r 3<|.d<|.b 0 ?_
 have bG:=aa.sl bn
 replace h2:=(sd aL [aK] aK).g1 h2
 refine T.loop (X:=(List Row) × (Option Addr) × Nat × Nat × Nat) ((([]++a):List Row),some ⟨aK,0,none⟩,0+a.length,bF,0) (fun (out,a_out,n_out,c_out,k)=>[(6,.slice a_out n_out c_out),(21,.slice a2 b.length c2),(22,vI (b.length:Int)),(23,vI (k:Int))]) (fun (out,a_out,n_out,c_out,k) az=>Chg (ins []) aL az∧RepS az (nin (ge w.heap.size) []) a_out n_out c_out out∧(k≤b.length)∧(Blk out)∧((b.drop k).foldl DR out=Bg a b)) (fun (out,a_out,n_out,c_out,k)=>b.length - k) AA ⟨AA,AA,AA,AA,trivial⟩ ⟨Chg.refl _ _,bG,AB,(by exact IM ‹_›),AF⟩ ?_
 rintro ⟨out,a_out,n_out,c_out,k⟩ b6 az ⟨J,E,bP,bQ,bR⟩ ao
 have aF:Mv [] [] aL az:=Mv.inl J all_nil all_nil
 replace ⟨h2,C⟩:=(sp aF J).g2 h2 C
 have bS:=E.len; have bT:=E.max
 refine .s<|.g<|.bp ((k:Int)< (b.length:Int)) (fun bo=>?_) (fun bo=>?_)
 ·refine .d<|.s<|.ct<|.sk<|.s<|.b 1<|.s<|.g ?_
  have bq:k< b.length:=AB
  refine .ix k 2 h2 bq ?_
  obtain ⟨ah,aq⟩:∃ y,b[k]? = some y:=⟨_,AU AB⟩
  have bU:=Ai aq; have bA:=AV aq
  obtain ⟨_,rfl,br⟩:=h2.elem k ah aq
  refine .lg 0 br<|.np 56 [vI 0,vI 0] fun aM b7 ag aG bt bu=>?_
  have bV:=C.cn ag
  have bW:=J.cn ag
  replace ⟨E,C,J⟩:=(sn [] aG ag).g3 E C J
  refine .sc [vI ah.t,vI ah.v] bt fun aH ar au aN=>?_
  replace ⟨E,C,J⟩:=(so [aM] ar).g3 E C J
  refine .d<|.g<|.r 1<|.ln au<|.cl (Gp out ah E.ta (by have:=Blk.len (by assumption:Blk out); omega) (w:=aH) (F:=all)) ?_
  rintro bX aI ⟨⟨bv,bw,rfl,W⟩,av⟩
  have aw:=al1 au.lt
  have aO:Gb w.heap.size aH.heap.size:=C.size
  replace ⟨E,C,J⟩:=(se [aM] av).g3 E C J
  have W:=W.fr aw aO
  refine .r 1<|.d<|.ib 1<|.g<|.it ((k:Int)+1)<|.r 1<|.d ?_
  have aP:Mv [aM] [] aI aI:=Mv.less all_nil
  replace ⟨E,W⟩:=(sp aP (Chg.refl nil _)).g2 E W
  exact ao (Cx ah out,bv,(Cx ah out).length,bw,k+1) _ _ ⟨AA,AA,AA,AA,trivial⟩ ⟨J,W,AB,(by exact Blk.ins ‹_› ((IM (by assumption:Bp b=true)).rows _ ‹_›)),(by rw [← E7 ‹_›]; exact Ed ‹_› ‹_›)⟩ (by (simp only []; omega))
 refine .d<|.s<|.cf<|.x 0 rfl<|.s<|.s<|.g<|.r 2<|.bp ((n_out:Int) > 24) (fun aQ=>?_) (fun aQ=>.d<|.cf<|.sk<|.s<|.g<|.r 3<|.d<|.r2 func140 results140 (.t (.slice a_out n_out c_out)) (.t (.bool true)) ⟨⟨_,(CJ rfl (AG (by exact (Nu (out:=out) (Em ‹_› AB) ‹_› ‹_› AB).2))),(E.vl (by exact (Nu (out:=out) (Em ‹_› AB) ‹_› ‹_› AB).1) (fun _ _ h=>h.1))⟩,C⟩)
 refine .d<|.ct<|.s<|.g<|.ns 0 56 [] fun ab aJ ae ax aR aS=>?_
 have aT:=Ae ae C.size
 replace ⟨E,C⟩:=(sn [] ax ae).g2 E C
 have aU:Own (α:=Row) aJ ab 56 (nin (ge w.heap.size) [ab]) 0 0 []:=Own.Aj aR
 refine .r 2<|.d ?_
 have bz:=aU.sl aT
 replace E:=(sd aJ [ab] ab).g1 E
 exact .r2 func140 results140 (.t (vS ab 0 0)) (.t (.bool false)) ⟨⟨_,(CJ rfl (AG (by exact (Nt (out:=out) (Em ‹_› AB) ‹_› ‹_› AB).2))),(bz.vl (by exact (Nt (out:=out) (Em ‹_› AB) ‹_› ‹_› AB).1) (fun _ _ h=>h.1))⟩,C⟩
theorem D0 (a:Prt) (b:Prt) (h1:RepS w F a1 n1 c1 a.ids) (h2:RepS w F a2 n2 c2 a.blocks) (h3:RepS w F a3 n3 c3 b.ids) (h4:RepS w F a4 n4 c4 b.blocks) (p0:Ck a) (p1:Ck b):Calls Tryz.prog 99 [.agg #[.slice a1 n1 c1,.slice a2 n2 c2],.agg #[.slice a3 n3 c3,.slice a4 n4 c4]].toArray w (BB fun rv w'=>(∃ v0,rv=.tuple #[v0,.bool ((CL a b).2)]∧VS (ge w.heap.size) w' ((CL a b).1:Prt) v0)∧Ext w w'):=by
 refine goT func99 ?_
 obtain ⟨rfl,d9,h1⟩:=h1.tp
 obtain ⟨rfl,ec,h2⟩:=h2.tp
 obtain ⟨rfl,ed,h3⟩:=h3.tp
 obtain ⟨rfl,ee,h4⟩:=h4.tp
 refine .s<|.g<|.np 48 [.slice a1 a.ids.length c1,.slice a2 a.blocks.length c2] fun af eS bE aW E cP=>?_
 replace ⟨h1,h2,h3,h4⟩:=(sn [] aW bE).g4 h1 h2 h3 h4
 have C:=aW
 refine .np 48 [.slice a3 b.ids.length c3,.slice a4 b.blocks.length c4] fun ag eT bF bG J cQ=>?_
 replace ⟨h1,h2,h3,h4,E,C⟩:=(sn [af] bG bF).g6 h1 h2 h3 h4 E C
 refine .np 48 [AH,AH] fun ah dt aO bH W cR=>?_
 have ef:=AX aO E.lt
 have eg:=AX aO J.lt
 have eh:=C.cn aO
 replace ⟨h1,h2,h3,h4,E,J,C⟩:=(sn [ag,af] bH aO).g7 h1 h2 h3 h4 E J C
 refine .r 1<|.d<|.s<|.s<|.g<|.ln E<|.cl (Cf a h1.ta h2.ta (w:=dt) (F:=all)) ?_
 rintro eU du ⟨rfl,bI⟩
 replace ⟨h1,h2,h3,h4,E,J,W,C⟩:=(se [ah,ag,af] bI).g8 h1 h2 h3 h4 E J W C
 cases ej:(Az a)
 ·refine .r 6<|.d<|.ct<|.s<|.g<|.r 1<|.sc [AH,AH] W fun eV bJ cS cT=>?_
  replace ⟨h1,h2,h3,h4,E,J,C⟩:=(so [ah,ag,af] bJ).g7 h1 h2 h3 h4 E J C
  exact .r 1<|.d<|.r2 func99 results99 (.bx cS) (.t (.bool false)) ⟨⟨_,(CJ rfl (AG (by exact (congrArg Prod.snd (I0 (.inl ‹_›))).symm))),(VS.of (y:=(⟨([]:List Int),([]:List (List Row))⟩:Prt)) ⟨_,rfl,⟨_,_,_,_,_,_,rfl,(RepS.Aj _ _ none 0 AE),(RepS.Aj _ _ none 0 AE)⟩⟩ (by exact (congrArg Prod.fst (I0 (.inl ‹_›))).symm))⟩,C⟩
 refine .r 2<|.ln J<|.cl (Cf b h3.ta h4.ta (w:=du) (F:=all)) ?_
 rintro eW eX ⟨rfl,bK⟩
 replace ⟨h1,h2,h3,h4,E,J,W,C⟩:=(se [ah,ag,af] bK).g8 h1 h2 h3 h4 E J W C
 cases ek:(Az b)
 ·refine .r 2<|.d<|.ct<|.s<|.g<|.r 1<|.sc [AH,AH] W fun eY bL cU cV=>?_
  replace ⟨h1,h2,h3,h4,E,J,C⟩:=(so [ah,ag,af] bL).g7 h1 h2 h3 h4 E J C
  exact .r 1<|.d<|.r2 func99 results99 (.bx cU) (.t (.bool false)) ⟨⟨_,(CJ rfl (AG (by exact (congrArg Prod.snd (I0 (.inr ‹_›))).symm))),(VS.of (y:=(⟨([]:List Int),([]:List (List Row))⟩:Prt)) ⟨_,rfl,⟨_,_,_,_,_,_,rfl,(RepS.Aj _ _ none 0 AE),(RepS.Aj _ _ none 0 AE)⟩⟩ (by exact (congrArg Prod.fst (I0 (.inr ‹_›))).symm))⟩,C⟩
 refine .r 2<|.d<|.cf<|.sk<|.s<|.g<|.ns 0 3 [] fun aw dv aF bM cW cX=>?_
 have cY:=AX aF E.lt
 have cZ:=AX aF J.lt
 have c7:=AX aF W.lt
 have c8:=Ae aF C.size
 have c9:=C.cn aF
 replace ⟨h1,h2,h3,h4,E,J,W,C⟩:=(sn [ah,ag,af] bM aF).g8 h1 h2 h3 h4 E J W C
 have ay:Own (α:=Int) dv aw 3 (nin (ge w.heap.size) [aw,ah,ag,af]) 0 0 []:=Own.Aj cW
 refine .ns 0 62 [] fun aB dw aC bN da db=>?_
 have de:=AX aC E.lt
 have df:=AX aC J.lt
 have dg:=AX aC W.lt
 have dh:=AX aC ay.lt
 have dj:=Ae aC C.size
 have dm:=C.cn aC
 replace ⟨h1,h2,h3,h4,E,J,W,ay,C⟩:=(sn [aw,ah,ag,af] bN aC).g9 h1 h2 h3 h4 E J W ay C
 have aI:Own (α:=List Row) dw aB 62 (nin (ge w.heap.size) [aB,aw,ah,ag,af]) 0 0 []:=Own.Aj da
 refine .r 1<|.np 48 [AH,AH] fun ai eZ aD aX bT bU=>?_
 have dx:=AX aD E.lt
 have dy:=AX aD J.lt
 have dz:=AX aD W.lt
 have bV:=AX aD ay.lt
 have bW:=AX aD aI.lt
 have dA:=C.cn aD
 replace ⟨h1,h2,h3,h4,E,J,W,ay,aI,C⟩:=(sn [aB,aw,ah,ag,af] aX aD).g10 h1 h2 h3 h4 E J W ay aI C
 refine .sc [vS aw 0 0,vS aB 0 0] bT fun aG aY aP bX=>?_
 replace ⟨h1,h2,h3,h4,E,J,W,ay,aI,C⟩:=(so [ai,aB,aw,ah,ag,af] aY).g10 h1 h2 h3 h4 E J W ay aI C
 refine .d<|.s<|.s<|.g<|.r 1<|.d<|.b 0<|T.loop (X:=Nat × (List Int) × Nat × Nat × Nat × (List (List Row)) × Nat × Nat × Nat) (1,([]:List Int),aw,0,0,([]:List (List Row)),aB,0,0) (fun (j,ao,r_out_0,n_out_0,c_out_0,aq,r_out_1,n_out_1,c_out_1)=>[(2,.pointer (some ⟨af,0,none⟩)),(3,.pointer (some ⟨ag,0,none⟩)),(4,.pointer (some ⟨ah,0,none⟩)),(6,.pointer (some ⟨ai,0,none⟩)),(7,vI (j:Int))]) (fun (j,ao,r_out_0,n_out_0,c_out_0,aq,r_out_1,n_out_1,c_out_1) aJ=>Chg (ins [aw,aB,ai]) aG aJ∧Own aJ r_out_0 3 (nin (ge w.heap.size) [ai,r_out_1,r_out_0,ah,ag,af]) n_out_0 c_out_0 ao∧OrB r_out_0 aw aG.heap.size∧Own aJ r_out_1 62 (nin (ge w.heap.size) [ai,r_out_1,r_out_0,ah,ag,af]) n_out_1 c_out_1 aq∧OrB r_out_1 aB aG.heap.size∧Nb r_out_1 r_out_0∧Box aJ ai 48 [vS r_out_0 n_out_0 c_out_0,vS r_out_1 n_out_1 c_out_1]∧(1≤j)∧(j≤7)∧(ao.length≤j)∧(aq.length≤j)∧(ao=(BY 0 (Be a b (j - 1))).1)∧(aq=(BY 0 (Be a b (j - 1))).2)∧(okM a b (j - 1)=true)) (fun (j,ao,r_out_0,n_out_0,c_out_0,aq,r_out_1,n_out_1,c_out_1)=>7 - j) AA ⟨AA,AA,AA,AA,AA,trivial⟩ ⟨Chg.refl _ _,ay,BU,aI,BU,dh,aP,AB,AB,(by (simp; done)),(by (simp; done)),AF,AF,AF⟩ ?_
 rintro ⟨j,ao,r_out_0,n_out_0,c_out_0,aq,r_out_1,n_out_1,c_out_1⟩ en aJ ⟨ab,ac,al,aa,am,aZ,ae,dB,dC,dD,dE,dF,dG,dH⟩ aK
 have dI:=Ay al cY E.lt
 have dJ:=Ay al cZ J.lt
 have dK:=Ay al c7 W.lt
 have bY:=Ay al (Nb.symm bV) aP.lt
 have bZ:=Bz al c8 C.size
 have dL:=BA al c9 C.size
 have dM:=Ay am de E.lt
 have dN:=Ay am df J.lt
 have dO:=Ay am dg W.lt
 have b0:=Ay am (Nb.symm bW) aP.lt
 have b6:=Bz am dj C.size
 have dP:=BA am dm C.size
 have b7:Cov (ins [aw,aB,ai]) aG aw:=⟨.inl AI⟩
 have b8:Cov (ins [aw,aB,ai]) aG aB:=⟨.inl AJ⟩
 have dQ:Cov (ins [aw,aB,ai]) aG ai:=⟨.inl AK⟩
 have dR:=BA al b7 (Nat.le_refl _)
 have dS:=BA am b8 (Nat.le_refl _)
 have ba:Mv [ai,aB,aw,ah,ag,af] [ai,r_out_1,r_out_0,ah,ag,af] aG aJ:=Mv.inl ab (all_cons AK (all_cons AJ (all_cons AI all_nil))) (all_cons (.inl AI) (all_cons (Bb am AJ) (all_cons (Bb al AK) (all_cons (.inl AL) (all_cons (.inl AM) (all_cons (.inl AN) all_nil))))))
 replace ⟨h1,h2,h3,h4,E,J,W,C⟩:=(sp ba ab).g8 h1 h2 h3 h4 E J W C
 have dT:=ac.len; have dU:=ac.max
 have dV:=aa.len; have dW:=aa.max
 refine .s<|.s<|.g<|.r 1<|.bp ((j:Int)≤6) (fun b9=>?_) (fun b9=>?_)
 ·refine .d<|.ct<|.sk<|.s<|.b 1<|.s<|.gd nil 11 fun et bc=>?_
  replace ⟨h1,h2,h3,h4,E,J,W,ac,aa,ae,C,ab⟩:=(se [ai,r_out_1,r_out_0,ah,ag,af] bc).g12 h1 h2 h3 h4 E J W ac aa ae C ab
  refine .ln 0 E id<|.r [1]<|.ln 3 J id<|.r [4]<|.go 2<|.cl (fun bd aL=>Ew a (j:Int) (h1.ta.ext aL) (h2.ta.ext aL) (by exact p0) (w:=bd) (F:=all)) ?_
  intro bd aL
  replace ⟨h3,h4,E,J,W,ac,aa,ae,C,ab⟩:=(se [ai,r_out_1,r_out_0,ah,ag,af] aL).g10 h3 h4 E J W ac aa ae C ab
  rintro ey ez ⟨⟨eA,eB,rfl,aE⟩,aQ⟩
  have bg:=al6 ae.lt aa.lt ac.lt W.lt J.lt E.lt
  have cd:Gb w.heap.size bd.heap.size:=C.size
  have hkeep_:=aQ
  replace ⟨h3,h4,E,J,W,ac,aa,ae,C,ab⟩:=(se [ai,r_out_1,r_out_0,ah,ag,af] aQ).g10 h3 h4 E J W ac aa ae C ab
  refine ⟨Ext.chg hkeep_,?_⟩
  have aE:=aE.fr bg cd
  refine .go 5<|.cl (fun bh aM=>Ew b (j:Int) (h3.ta.ext aM) (h4.ta.ext aM) (by exact p1) (w:=bh) (F:=all)) ?_
  intro bh aM
  replace ⟨E,J,W,ac,aa,ae,aE,C,ab⟩:=(se [ai,r_out_1,r_out_0,ah,ag,af] aM).g9 E J W ac aa ae aE C ab
  rintro eC eD ⟨⟨eE,eF,rfl,aT⟩,aR⟩
  have bi:=al6 ae.lt aa.lt ac.lt W.lt J.lt E.lt
  have ce:Gb w.heap.size bh.heap.size:=C.size
  have hkeep_:=aR
  replace ⟨E,J,W,ac,aa,ae,aE,C,ab⟩:=(se [ai,r_out_1,r_out_0,ah,ag,af] aR).g9 E J W ac aa ae aE C ab
  refine ⟨Ext.chg hkeep_,?_⟩
  have aT:=aT.fr bi ce
  refine .go 6<|.cl (fun bj aN=>HO (BV a (j:Int)) (BV b (j:Int)) (aE.ta.ext aN) (aT.ta.ext aN) (by exact KX p0 _) (by exact KX p1 _) (w:=bj) (F:=all)) ?_
  intro bj aN
  replace ⟨E,J,W,ac,aa,ae,C,ab⟩:=(se [ai,r_out_1,r_out_0,ah,ag,af] aN).g8 E J W ac aa ae C ab
  rintro eG eH ⟨⟨eI,rfl,⟨dp,dq,rfl,ak⟩⟩,aS⟩
  have bk:=al6 ae.lt aa.lt ac.lt W.lt J.lt E.lt
  have cg:Gb w.heap.size bj.heap.size:=C.size
  have hkeep_:=aS
  replace ⟨E,J,W,ac,aa,ae,C,ab⟩:=(se [ai,r_out_1,r_out_0,ah,ag,af] aS).g8 E J W ac aa ae C ab
  refine ⟨Ext.chg hkeep_,?_⟩
  have ak:=ak.fr bk cg
  refine .r [7,8] ?_
  cases d0:(CN (BV a (j:Int)) (BV b (j:Int))).2
  ·refine .r [9,10]<|.d fun eJ bm=>?_
   replace ⟨E,J,W,ac,aa,ae,ak,C,ab⟩:=(se [ai,r_out_1,r_out_0,ah,ag,af] bm).g9 E J W ac aa ae ak C ab
   refine .r 1<|.d<|.s<|.s<|.g<|.r 2<|.d<|.ct<|.s<|.g<|.r 1<|.sc [AH,AH] W fun eK bn ci cj=>?_
   replace ⟨E,J,ac,aa,ae,ak,C⟩:=(so [ai,r_out_1,r_out_0,ah,ag,af] bn).g7 E J ac aa ae ak C
   exact .r 1<|.d<|.r2 func99 results99 (.bx ci) (.t (.bool false)) ⟨⟨_,(CJ rfl (AG (by exact (congrArg Prod.snd (Nv (k:=j) AB AB ‹_›)).symm))),(VS.of (y:=(⟨([]:List Int),([]:List (List Row))⟩:Prt)) ⟨_,rfl,⟨_,_,_,_,_,_,rfl,(RepS.Aj _ _ none 0 AE),(RepS.Aj _ _ none 0 AE)⟩⟩ (by exact (congrArg Prod.fst (Nv (k:=j) AB AB ‹_›)).symm))⟩,C⟩
  refine .r [9,10]<|.d fun eL bo=>?_
  replace ⟨E,J,W,ac,aa,ae,ak,C,ab⟩:=(se [ai,r_out_1,r_out_0,ah,ag,af] bo).g9 E J W ac aa ae ak C ab
  refine .r 1<|.d<|.s<|.s<|.g<|.r 2<|.d<|.cf<|.sk<|.s<|.g<|.r 2<|.bp (((((CN (BV a (j:Int)) (BV b (j:Int))).1).length):Int) > 0) (fun ck=>?_) (fun ck=>.d<|.cf<|.sk<|.ib 1<|.g<|.r 1<|.it ((j:Int)+1)<|.r 1<|.d<|aK (j+1,ao,r_out_0,n_out_0,c_out_0,aq,r_out_1,n_out_1,c_out_1) _ _ ⟨AA,AA,AA,AA,AA,trivial⟩ ⟨ab,ac,al,aa,am,aZ,ae,AB,AB,AB,AB,(by exact Re ‹_› ‹_› AB ‹_› ‹_› ‹_›),(by exact Rg ‹_› ‹_› AB ‹_› ‹_› ‹_›),(by exact L8 ‹_› AB ‹_›)⟩ (by (simp only []; omega)))
  refine .d<|.ct<|.s<|.g<|.r 1<|.lb ae<|.r 1<|.ns 1 3 [vI (j:Int)] fun bO eM ar bq cm co=>?_
  have cp:=AX ar E.lt
  have cq:=AX ar J.lt
  have cr:=AX ar W.lt
  have br:=AX ar ac.lt
  have cu:=AX ar aa.lt
  have cw:=AX ar ae.lt
  have cx:=Ae ar C.size
  replace ⟨E,J,W,ac,aa,ae,ak,C,ab⟩:=(se [ai,r_out_1,r_out_0,ah,ag,af] bq).g9 E J W ac aa ae ak C ab
  have aU:nin (ge w.heap.size) [ai,r_out_1,r_out_0,ah,ag,af] bO∧bO≠r_out_0:=BR cx (all_cons cw (all_cons cu (all_cons br (all_cons cr (all_cons cq (all_cons cp all_nil)))))) br
  refine RG.Ax (T:=34) (ty:=34) (y:=(j:Int)) ac cm AA AA rfl aU AB fun aH bP eN aj az bt=>?_
  have cy:=Ag az (Nb.symm aZ) aa.lt
  have d3:=Ag az bY ae.lt
  have cz:=CB az al ab.size
  replace ⟨E,J,W,aa,ae,ak,C,ab⟩:=(sa [ai,r_out_1,r_out_0,ah,ag,af] bt az).g8 E J W aa ae ak C ab
  replace aj:=aj.rn r_out_0
  have d4:=aj.len
  refine .r 1<|.ss 0 (vS aH (n_out_0+1) bP) ae fun eO bu au cA=>?_
  replace ⟨E,J,W,aj,aa,ak,C,ab⟩:=(so [ai,r_out_1,aH,ah,ag,af] bu).g8 E J W aj aa ak C ab
  refine .d<|.g<|.r 1<|.lb au<|.r 1<|.ns 1 62 [.slice dp (((CN (BV a (j:Int)) (BV b (j:Int))).1).length) dq] fun bQ eP av bv cB cC=>?_
  have cD:=AX av E.lt
  have cE:=AX av J.lt
  have cF:=AX av W.lt
  have cG:=AX av aj.lt
  have bw:=AX av aa.lt
  have cH:=AX av au.lt
  have cI:=Ae av C.size
  replace ⟨W,aj,aa,au,ak,C,ab⟩:=(se [ai,r_out_1,aH,ah,ag,af] bv).g7 W aj aa au ak C ab
  have aV:nin (ge w.heap.size) [ai,r_out_1,aH,ah,ag,af] bQ∧bQ≠r_out_1:=BR cI (all_cons cH (all_cons bw (all_cons cG (all_cons cF (all_cons cE (all_cons cD all_nil)))))) bw
  refine RG.Ax (T:=46) (ty:=46) (y:=(CN (BV a (j:Int)) (BV b (j:Int))).1) aa cB AA AA ⟨_,_,_,rfl,ak.oi⟩ aV AB fun bz bR eQ ax aA bA=>?_
  have cJ:=Ag aA (Nb.symm cy) aj.lt
  have d6:=Ag aA b0 au.lt
  have cK:=CB aA am ab.size
  replace ⟨W,aj,au,C,ab⟩:=(sa [ai,r_out_1,aH,ah,ag,af] bA aA).g5 W aj au C ab
  replace ax:=ax.rn r_out_1
  have d7:=ax.len
  refine .r 1<|.ss 1 (vS bz (n_out_1+1) bR) au fun eR bB cL cM=>?_
  replace ⟨W,aj,ax,C,ab⟩:=(so [ai,bz,aH,ah,ag,af] bB).g5 W aj ax C ab
  exact .d<|.ib 1<|.g<|.r 1<|.it ((j:Int)+1)<|.r 1<|.d<|aK (j+1,(ao++[(j:Int)]),aH,n_out_0+1,bP,(aq++[(CN (BV a (j:Int)) (BV b (j:Int))).1]),bz,n_out_1+1,bR) _ _ ⟨AA,AA,AA,AA,AA,trivial⟩ ⟨ab,aj,cz,ax,cK,cJ,cL,AB,AB,AB,AB,(by exact Rd ‹_› ‹_› AB ‹_› ‹_› ‹_›),(by exact Rf ‹_› ‹_› AB ‹_› ‹_› ‹_›),(by exact L8 ‹_› AB ‹_›)⟩ (by (simp only []; omega))
 refine .d<|.cf<|.x 0 rfl<|.s<|.g<|.ln ae<|.sc [vS r_out_0 n_out_0 c_out_0,vS r_out_1 n_out_1 c_out_1] W fun bS bC cN cO=>?_
 replace ⟨ac,aa,C⟩:=(so [ai,r_out_1,r_out_0,ah,ag,af] bC).g3 ac aa C
 refine .r 1<|.d ?_
 have bD:=ac.sl bZ
 replace aa:=(sd bS [ai,r_out_1,r_out_0,ah,ag,af] r_out_0).g1 aa
 have dr:=aa.sl b6
 replace bD:=(sd bS [ai,r_out_1,ah,ag,af] r_out_1).g1 bD
 exact .r2 func99 results99 (.bx cN) (.t (.bool true)) ⟨⟨_,(CJ rfl (AG (by exact (Nx (k:=j) AB ‹_› ‹_› ‹_› ‹_› ‹_›).2))),(VS.of (y:=(⟨ao,aq⟩:Prt)) ⟨_,rfl,⟨_,_,_,_,_,_,rfl,bD.w1,dr.w1⟩⟩ (by exact (Nx (k:=j) AB ‹_› ‹_› ‹_› ‹_› ‹_›).1))⟩,C⟩
end Go.Proofs.YtggnnidleedpaaaGreat
namespace Go.Proofs.YtggnnidleedpaaaGreat
theorem L9 {P:Program}{T ty t:TypeId}{sz:Nat}{w:World}{r i c m c':Nat}{a2:Option Addr}{cs vs:List Value}(hT:G1 P T t sz=true) (hB:Box w r t cs) (hsrc:0< m→∃ x,a2=some x∧Has w x vs) (hvs:vs.length=m * sz) (hroom:i+m≤c) (hfit:i * sz+vs.length≤cs.length) (hone:∀ v∈vs,Dr v=true) :
 ∃ w',(Builtin.append_ #[T,T] ty #[.slice (some ⟨r,0,none⟩) i c,.slice a2 m c']).run P w=.ok (.slice (some ⟨r,0,none⟩) (i+m) c) w'∧Box w' r t (BQ cs (i * sz) vs)∧Chg (one r) w w':=by
 obtain ⟨g1,inf,z,hinf,hsz,_,_,_⟩:=EQ hT
 by_cases hm:m=0
 ·subst hm
  have:vs=[]:=List.length_eq_zero_iff.1 AB
  subst this
  refine ⟨w,FR g1 hinf _ _ _ _ _ AB w,?_,Chg.refl _ _⟩
  unfold BQ
  simpa using hB
 ·obtain ⟨x,rfl,hx⟩:=hsrc AB
  unfold Box at hB
  have hr:=run_append_room (P:=P) w T ty t inf g1 hinf r i c cs.toArray hB x m c' vs (by rw [hsz]; exact hvs) hx (fun u hu=>LY (hone u hu)) hroom (by rw [hsz]; simpa using hfit)
  rw [hsz] at hr
  have hset:(w.setRow r (BQ cs (i * sz) vs).toArray).heap[r]? = some (.cells (BQ cs (i * sz) vs).toArray t (0,0)):=setRow_heap w r cs.toArray _ t _ hB
  refine ⟨_,hr,hset,⟨rfl,rfl,rfl,by simp [World.setRow],fun k _ hn=>setRow_other w r k _ hn⟩⟩
def Rh (P:Program) (T t:TypeId) (sz:Nat):Bool :=
 (match P.underlying T with | some (.slice e)=>Nat.beq e t | _=>false) &&
 (match P.info? t with | some i=>(match i.zero with | some z=>Nat.beq z.cells.size sz&&z.cells.toList.all Dr | none=>false) | none=>false)
theorem MA {P:Program}{T ty t:TypeId}{sz:Nat}{w:World}{r o c:Nat}{cs:List Value}(hT:Rh P T t sz=true) (hB:Box w r t cs) (hfit:o+sz≤cs.length) :
 ∃ vs w',(Builtin.clear_ #[T] ty #[.slice (some ⟨r,o,none⟩) 1 c]).run P w=.ok (.tuple #[]) w'∧vs.length=sz∧Box w' r t (BQ cs o vs)∧Chg (one r) w w':=by
 unfold Rh at hT
 simp only [AW] at hT
 obtain ⟨h1,h2⟩:=hT
 split at h1
 ·rename_i e he
  have:=Nat.eq_of_beq_eq_true h1
  subst this
  split at h2
  ·rename_i inf hinf
   split at h2
   ·rename_i z hz
    simp only [AW,List.all_eq_true] at h2
    have hsz:=Nat.eq_of_beq_eq_true h2.1
    have hl:(Builtin.zeroCells z.cells 1).toList.length=sz:=by rw [Array.length_toList,size_zeroCells,hsz]; omega
    have ho:∀ v∈(Builtin.zeroCells z.cells 1).toList,Dr v=true:=fun v hv=>by
     unfold Builtin.zeroCells at hv
     simp only [Array.toList_map,List.mem_map,Array.toList_range,List.mem_range] at hv
     obtain ⟨k,hk,rfl⟩:=hv
     have hk2:k % z.cells.size< z.cells.size:=Nat.mod_lt _ AB
     refine h2.2 _ ?_
     rw [getElem!_pos z.cells _ hk2]
     exact Array.getElem_mem_toList hk2
    obtain ⟨w',g1,g2,g3,_⟩:=hB.Kn (P:=P) (Builtin.zeroCells z.cells 1).toList (o:=o) (i:=0) AB ho
    refine ⟨_,w',?_,hl,g2,g3⟩
    have hv:(zeroValue e).run P w=.ok z w:=by simp [zeroValue,typeInfo,hinf,hz,go_sem]
    unfold Builtin.clear_
    simp only [List.getElem?_toArray,List.getElem?_cons_zero]
    rw [AZ (run_underlying he w)]
    simp only []
    rw [AZ hv,AZ g1]
    rfl
   ·cases h2
  ·cases h2
 ·cases h1
section
variable {P:Program} {n:Nat} {K:Env→World→Prop} {ops:Array Oper} {j:Nat} {e:Env} {w:World}
theorem RG.clear {ats:List TypeId}{ty:TypeId}{args:List Value}{v:Value}{w':World}(h:IF n ops j e=some (.clear,ats,ty,args))
 (hr:(Builtin.clear_ ats.toArray ty args.toArray).run P w=.ok v w') (H:RG P n K ops (j+1) (BN e (Aq ops j).dst v) w'):RG P n K ops j e w:=by
 obtain ⟨hg,h⟩:=CR h
 refine RG.val (v:=v) hg ?_ H
 split at h
 ·rename_i c hop
  split at h
  ·rename_i b hcal
   simp only [Option.some.injEq,Prod.mk.injEq] at h
   obtain ⟨rfl,rfl,rfl,rfl⟩:=h
   have ha:(c.args.toList.map (ev e)).toArray=c.args.map (ev e):=by apply Array.toList_inj.1; simp
   rw [ha,Array.toArray_toList] at hr
   simp only [execOp,hop,resolve,hcal]
   exact AZ hr
  ·cases h
 ·cases h
def Tu (n:Nat) (ops:Array Oper) (j:Nat) (e:Env):Option (TypeId × Value × Value × Value × Value) :=
 bif CT n ops j e then
  match (Aq ops j).op with
  | .slice t x (some lo) (some hi) (some mx)=>some (t,ev e x,ev e lo,ev e hi,ev e mx)
  | _=>none
 else none
theorem RG.Tv {t:TypeId}{sz:Nat}{a:Option Addr}{len cap:Nat}{k k2 k3:IntKind}{i1 i2 i3:Int}(l h' m:Nat) (h:Tu n ops j e=some (t,.slice a len cap,.int k i1,.int k2 i2,.int k3 i3)) (ht:Jo P t sz=true) (e1:i1=(l:Int)) (e2:i2=(h':Int)) (e3:i3=(m:Int)) (hlh:l≤h') (hh:h'≤m) (hm:m≤cap)
 (H:∀ v,RG P n K ops (j+1) (BN e (Aq ops j).dst v) w):RG P n K ops j e w:=by
 obtain ⟨hg,h⟩:=CR h
 unfold Jo at ht
 split at ht
 ·rename_i el hu
  split at ht
  ·rename_i inf hinf
   have hun:(underlying t).run P w=.ok (.slice el) w:=by simp [underlying,hu,go_sem]
   refine RG.val (v:=.slice (if m=l then a else a.map (·.add (l * inf.size))) (h' - l) (m - l)) hg ?_ (H _)
   split at h
   ·rename_i t' x lo hi mx hop
    simp only [Option.some.injEq,Prod.mk.injEq] at h
    obtain ⟨rfl,hx,hlo,hhi,hmx⟩:=h
    simp only [execOp,hop]
    refine AZ ?_
    simp only [Option.map_some,hx,hlo,hhi,hmx]
    unfold Instr.sliceAt
    rw [AZ hun]
    simp only []
    unfold Instr.slice
    rw [AZ hun]
    simp only []
    have hb:(Instr.sliceBounds true len cap (some (.int k i1)) (some (.int k2 i2)) (some (.int k3 i3))).run P w=.ok (l,h',m) w:=by
     unfold Instr.sliceBounds
     simp only []
     rw [AZ (Dy e3 hm w),AZ (Dy e2 hh w),AZ (Dy e1 hlh w)]
     rfl
    rw [AZ hb]
    simp only []
    rw [AZ (show (sizeOf el).run P w=.ok inf.size w by simp [sizeOf,typeInfo,hinf,go_sem])]
    rfl
   ·cases h
  ·cases ht
 ·cases ht
end
theorem GA.Tw {P:Program}{S:Nat→Prop}{n m:Nat}{L:Env→World→Prop}{ops:Array Oper}{l:List Nat}{e:Env}{w:World}{i:Nat}{t:TypeId}{sz r len cap:Nat}{lo hi:Option Value}(l' h':Nat) (hb:gB n m ops l i=true) (h:G5 n ops i e=some (t,.slice (some ⟨r,0,none⟩) len cap,lo,hi)) (ht:Jo P t sz=true) (hlo:bnd lo 0 l') (hhi:bnd hi len h') (hlh:l'≤h') (hh:h'≤cap)
 (H:∀ a2 c2,(0< h' - l'→a2=some ⟨r,l' * sz,none⟩)→GA P S n m L ops (i::l) (BN e (Aq ops i).dst (.slice a2 (h' - l') c2)) w):GA P S n m L ops l e w:=by
 refine GA.IT hb (fun w=>?_) (H (if cap=l' then some ⟨r,0,none⟩ else some ⟨r,l' * sz,none⟩) (cap - l') (fun hp=>by rw [if_neg AB]))
 have h1:=DU h (GD ht hlo hhi hlh hh w)
 simp only [Option.map_some,add_lit,Nat.zero_add] at h1
 exact h1
theorem Own.Sz {α:Type}[Rep α] {w:World}{r:Nat}{t:TypeId}{F:Nat→Prop}{n c:Nat}{xs:List α}(h:Own w r t F n c xs):∃ cs,Box w r t cs∧cs.length=c * Rep.sz α:=by
 obtain ⟨cur,h1,h2⟩:=h.row
 exact ⟨cur.toList,by unfold Box; simpa using h1,by simpa using h2⟩
theorem Own.P6 {α:Type}[Rep α] {w w':World}{r:Nat}{t:TypeId}{F:Nat→Prop}{n c i:Nat}{xs:List α}{cs cs':List Value}(h:Own w r t F n c xs) (hx:Chg (one r) w w') (hB:Box w r t cs) (hB':Box w' r t cs') (hl:cs'.length=c * Rep.sz α) (hi:i< n)
 (hp:∀ p,p< (n - 1) * Rep.sz α→cs'[p]? = if p< i * Rep.sz α then cs[p]? else cs[p+Rep.sz α]?):Own w' r t F (n - 1) c (xs.take i++xs.drop (i+1)):=by
 have hn:=h.len
 have hle:=h.le
 have hcap:=h.cap
 unfold Box at hB hB'
 refine ⟨by rw [List.length_append,List.length_take,List.length_drop]; omega,by omega,hcap,⟨cs'.toArray,hB',by simpa using hl⟩,fun k x hk=>?_⟩
 have hfr:∀ b,b< w.heap.size→F b∧b≠r→(F b∧b≠r)∧w'.heap[b]? = w.heap[b]? := fun b hb hF=>⟨hF,hx.block b hb (fun e=>hF.2 e)⟩
 have hk2:k< (xs.take i++xs.drop (i+1)).length:=(List.getElem?_eq_some_iff.1 hk).1
 rw [List.length_append,List.length_take,List.length_drop] at hk2
 by_cases hki:k< i
 ·rw [List.getElem?_append_left (by rw [List.length_take]; omega),List.getElem?_take,if_pos hki] at hk
  obtain ⟨c1,g1,g2⟩:=h.elem k x hk
  refine ⟨c1,Rep.frame g1 hfr,fun u v hv=>?_⟩
  have h3:=g2 u v hv
  have hu:u< Rep.sz α:=by have:=(List.getElem?_eq_some_iff.1 hv).1; rw [Rep.len g1] at this; exact this
  have hm:k * Rep.sz α+Rep.sz α≤i * Rep.sz α:=by rw [← Nat.succ_mul]; exact Nat.mul_le_mul_right _ hki
  have hm2:i * Rep.sz α≤(n - 1) * Rep.sz α:=Nat.mul_le_mul_right _ AB
  rw [add_lit] at h3 ⊢
  simp only [World.cell?,hB] at h3
  simp only [World.cell?,hB']
  have:=hp (k * Rep.sz α+u) AB
  rw [if_pos AB] at this
  simpa [this] using h3
 ·rw [List.getElem?_append_right (by rw [List.length_take]; omega),List.length_take,Nat.min_eq_left AB,List.getElem?_drop] at hk
  rw [show i+1+(k - i)=k+1 by omega] at hk
  obtain ⟨c1,g1,g2⟩:=h.elem (k+1) x hk
  refine ⟨c1,Rep.frame g1 hfr,fun u v hv=>?_⟩
  have h3:=g2 u v hv
  have hu:u< Rep.sz α:=by have:=(List.getElem?_eq_some_iff.1 hv).1; rw [Rep.len g1] at this; exact this
  have hm:k * Rep.sz α+Rep.sz α≤(n - 1) * Rep.sz α:=by rw [← Nat.succ_mul]; exact Nat.mul_le_mul_right _ AB
  have hm2:i * Rep.sz α≤k * Rep.sz α:=Nat.mul_le_mul_right _ AB
  rw [add_lit] at h3 ⊢
  simp only [World.cell?,hB] at h3
  simp only [World.cell?,hB']
  have:=hp (k * Rep.sz α+u) AB
  rw [if_neg AB] at this
  rw [Nat.succ_mul,show k * Rep.sz α+Rep.sz α+u=k * Rep.sz α+u+Rep.sz α by omega] at h3
  simpa [this] using h3
theorem KY {cs v1 v2:List Value}{n c i sz:Nat}(hl:cs.length=c * sz) (hi:i< n) (hn:n≤c) (h1:v1=(cs.drop ((i+1) * sz)).take ((n - (i+1)) * sz)) (h2:v2.length=sz) :
 (BQ (BQ cs (i * sz) v1) ((n - 1) * sz) v2).length=c * sz∧∀ p,p< (n - 1) * sz→(BQ (BQ cs (i * sz) v1) ((n - 1) * sz) v2)[p]? = if p< i * sz then cs[p]? else cs[p+sz]? := by
 have m1:(i+1) * sz+(n - (i+1)) * sz=n * sz:=by rw [← Nat.add_mul]; congr 1; omega
 have m2:(n - 1) * sz+sz=n * sz:=by rw [← Nat.succ_mul]; congr 1; omega
 have m3:n * sz≤c * sz:=Nat.mul_le_mul_right _ hn
 have m4:(i+1) * sz=i * sz+sz:=Nat.succ_mul _ _
 have l1:v1.length=(n - (i+1)) * sz:=by rw [h1,List.length_take,List.length_drop]; omega
 have l2:(BQ cs (i * sz) v1).length=c * sz:=by rw [Di AB]; exact hl
 refine ⟨by rw [Di AB]; exact l2,fun p hp=>?_⟩
 unfold BQ
 rw [List.append_assoc,List.getElem?_append_left (by rw [List.length_take]; unfold BQ at l2; omega),List.getElem?_take,if_pos hp,List.append_assoc]
 by_cases hpi:p< i * sz
 ·rw [if_pos hpi,List.getElem?_append_left (by rw [List.length_take]; omega),List.getElem?_take,if_pos hpi]
 ·rw [if_neg hpi,List.getElem?_append_right (by rw [List.length_take]; omega),List.length_take,Nat.min_eq_left AB,List.getElem?_append_left AB,h1,List.getElem?_take,if_pos AB,List.getElem?_drop]
  congr 1
  omega
variable {w:World} {F:Nat→Prop}
theorem Ri {x:Prt}{cs:List Value}(h:Rep.rep w F x cs):∀ v∈cs,Dr v=true:=Rep.flat h
theorem Own.Dr {w:World}{r:Nat}{t:TypeId}{F:Nat→Prop}{n c i:Nat}{xs:List Prt}{cs:List Value}(h:Own w r t F n c xs) (hB:Box w r t cs):∀ v,i+(n - i)≤n→v∈(cs.drop (i * 2)).take ((n - i) * 2)→Go.Proofs.YtggnnidleedpaaaGreat.Dr v=true:=by
 intro v hin hv
 obtain ⟨k,hk⟩:=List.mem_iff_getElem?.1 hv
 rw [List.getElem?_take] at hk
 split at hk
 ·rename_i hlt
  rw [List.getElem?_drop] at hk
  have hn:=h.len
  have hj:i+k / 2< xs.length:=by omega
  obtain ⟨c1,g1,g2⟩:=h.elem (i+k / 2) xs[i+k / 2] (AU hj)
  have hl:c1.length=2:=Rep.len g1
  have hk2:k % 2< c1.length:=by omega
  have h3:=g2 (k % 2) c1[k % 2] (AU hk2)
  have hz:Rep.sz Prt=2:=rfl
  unfold Box at hB
  rw [add_lit,hz] at h3
  simp only [World.cell?,hB] at h3
  have e:(i+k / 2) * 2+k % 2=i * 2+k:=by omega
  rw [e] at h3
  have h4:cs[i * 2+k]? = some c1[k % 2]:=by simpa using h3
  rw [hk] at h4
  cases h4
  exact Ri g1 _ (List.getElem_mem hk2)
 ·cases hk
theorem Oi:∀ (is:List Int) (bs:List (List Row)) (o:Option Int),CA o is bs=true→is.length=bs.length→∀ b∈bs,Bp b=true:=by
 intro is
 induction is with
 | nil =>
   intro bs o _ hl b hb
   cases bs with
   | nil=>cases hb
   | cons c cs=>simp at hl
 | cons i is ih =>
   intro bs o h hl b hb
   cases bs with
   | nil=>cases hb
   | cons c cs =>
     unfold CA at h
     simp only [AW] at h
     rcases List.mem_cons.1 hb with rfl | hb
     ·exact h.1.2
     ·exact ih cs (some i) h.2 (by simpa using hl) b hb
theorem FC {p:Prt}(h:Az p=true) (id:Int):Bp (partOf p id)=true:=by
 rcases GG id p.ids p.blocks with h1 | h1
 ·unfold partOf; rw [h1]; rfl
 ·unfold Az at h
  simp only [AW,decide_eq_true_eq] at h
  exact Oi p.ids p.blocks none h.2 h.1 _ h1
theorem M9 {id t:Int}:∀ (ps:List Prt) (o:List Row),(∀ p∈ps,PrtI p)→Blk o→((look t o).isSome=true∨∃ p∈ps,(look t (partOf p id)).isSome=true)→(look t (ps.foldl (CK id) o)).isSome=true:=by
 intro ps
 induction ps with
 | nil =>
   rintro o _ _ (h | ⟨p,hp,_⟩)
   ·exact h
   ·cases hp
 | cons p ps ih =>
   intro o hI ho h
   have hp:Blk (partOf p id):=(hI p AD).of id
   refine ih _ (fun q hq=>hI q (by simp [hq])) (ho.merge hp) ?_
   have e:look t (CK id o p)=(look t (partOf p id)).or (look t o):=Cg t o ho hp
   rcases h with h | ⟨q,hq,h⟩
   ·refine .inl ?_
    rw [e]
    cases look t (partOf p id) with
    | none=>exact h
    | some x=>rfl
   ·rcases List.mem_cons.1 hq with rfl | hq
    ·refine .inl ?_
     rw [e]
     obtain ⟨x,hx⟩:=Option.isSome_iff_exists.1 h
     rw [hx]; rfl
    ·exact .inr ⟨q,hq,h⟩
theorem I1 {p:Prt}{n:Int}(h:Bw p n=true):∀ i∈p.ids,i≤n:=by
 unfold Bw at h
 simp only [AW] at h
 obtain ⟨h1,h2⟩:=h
 unfold Az at h1
 simp only [AW,decide_eq_true_eq] at h1
 have key:∀ (is:List Int) (bs:List (List Row)) (o:Option Int),CA o is bs=true→(∀ q,o=some q→∀ i∈is,q< i)∧∀ l,is.getLast? = some l→∀ i∈is,i≤l:=by
  intro is
  induction is with
  | nil=>intro bs o _; exact ⟨fun _ _ i hi=>(by cases hi),fun l hl=>(by simp at hl)⟩
  | cons x xs ih =>
    intro bs o hg
    cases bs with
    | nil=>simp [CA] at hg
    | cons b bs =>
      simp only [CA,AW] at hg
      obtain ⟨k1,k2⟩:=ih bs (some x) hg.2
      have hx:∀ q,o=some q→q< x:=fun q hq=>by
       have:=hg.1.1.1.2
       rw [hq] at this
       simpa using this
      refine ⟨fun q hq i hi=>?_,fun l hl i hi=>?_⟩
      ·rcases List.mem_cons.1 hi with rfl | hi
       ·exact hx q hq
       ·have:=k1 x rfl i hi; have:=hx q hq; omega
      ·cases hc:xs.getLast? with
       | none =>
         have:xs=[]:=List.getLast?_eq_none_iff.1 hc
         subst this
         simp at hl hi
         omega
       | some l2 =>
         have e:(x::xs).getLast? = some l2:=by rw [List.getLast?_cons,hc]; rfl
         rw [e] at hl
         cases hl
         rcases List.mem_cons.1 hi with rfl | hi
         ·have:=k1 i rfl l (List.mem_of_getLast? hc); omega
         ·exact k2 l hc i hi
 intro i hi
 cases hl:p.ids.getLast? with
 | none=>rw [hl] at h2; cases h2
 | some l =>
   rw [hl] at h2
   have:=(key p.ids p.blocks none h1.2).2 l hl i hi
   have h3:l≤n:=by simpa using h2
   omega
theorem H5 {p:Prt}{id:Int}(h:∀ i∈p.ids,i< id):partOf p id=[]:=by
 have key:∀ (is:List Int) (bs:List (List Row)),(∀ i∈is,i< id)→Bm id is bs=[]:=by
  intro is
  induction is with
  | nil=>intro bs _; unfold Bm; rfl
  | cons i is ih =>
    intro bs h
    cases bs with
    | nil=>unfold Bm; rfl
    | cons b bs =>
      unfold Bm
      rw [if_neg (by have:=h i AD; simp; omega)]
      exact ih bs (fun j hj=>h j (by simp [hj]))
 exact key _ _ h
theorem Jd {s:Sto}(h:SD s) (hk:Al s=true){x y:Prt}(hx:x∈s.parts) (hy:y∈s.parts):CL x y=(BW x y,true):=by
 have hK:=StoK.of h hk
 have ox:=(hK.part x hx).2
 have oy:=(hK.part y hy).2
 unfold CL
 rw [if_pos]
 refine ⟨ox,oy,?_⟩
 unfold okM
 rw [List.all_eq_true]
 intro i hi
 rw [List.mem_range] at hi
 have e1:BV x ((i:Int)+1)=partOf x ((i:Int)+1):=by unfold BV; rw [if_pos ox]
 have e2:BV y ((i:Int)+1)=partOf y ((i:Int)+1):=by unfold BV; rw [if_pos oy]
 rw [e1,e2]
 have b1:=FC ox ((i:Int)+1)
 have b2:=FC oy ((i:Int)+1)
 have hl:(Bg (partOf x ((i:Int)+1)) (partOf y ((i:Int)+1))).length≤24:=by
  unfold Al at hk
  simp only [AW,decide_eq_true_eq,List.all_eq_true,List.mem_range,EJ] at hk
  by_cases hin:i< s.idx.names.length
  ·have bb:=(IM b1).merge (IM b2)
   have hP:Blk (s.parts.foldl (CK ((i:Int)+1)) []):=FB h.part Blk.nil
   refine Nat.le_trans (LG bb (b:=rowsOf s ((i:Int)+1)) ?_ (fun t ht=>?_)) (hk.2 i hin)
   ·exact (Dl 0 _ s.mem _ hK.row hP).2
   ·refine Nq hK _ t (.inl (M9 s.parts [] h.part Blk.nil (.inr ?_)))
    rw [Cg t _ (IM b1) (IM b2)] at ht
    cases hc:look t (partOf y ((i:Int)+1)) with
    | some q=>exact ⟨y,hy,by rw [hc]; rfl⟩
    | none=>rw [hc] at ht; exact ⟨x,hx,ht⟩
  ·have g:=fun p hp=>H5 (p:=p) (id:=(i:Int)+1) (fun j hj=>by have:=I1 (hk.1.1.2 p hp) j hj; omega)
   rw [g x hx,g y hy]
   decide
 unfold CN
 rw [if_pos ⟨b1,b2,by omega⟩]
theorem Je {s:Sto}{i:Int}(_h:SD s) (hk:Al s=true) (h1:inR i 0 ((s.parts.length:Int) - 2)=false):Ba s i=(Am s,false):=by
 rw [FO hk]; exact JJ h1
theorem MB {s:Sto}{i:Int}{x y:Prt}(h:SD s) (hk:Al s=true) (h1:inR i 0 ((s.parts.length:Int) - 2)=true) (hx:s.parts[i.toNat]? = some x) (hy:s.parts[(i+1).toNat]? = some y) :
 Ba s i=(⟨(Am s).idx,[]++(((Am s).parts.set i.toNat (CL x y).1).take (i.toNat+1)++((Am s).parts.set i.toNat (CL x y).1).drop (i.toNat+1+1)),(Am s).mem⟩,true):=by
 have h2:=CF h1
 have hx2:=(List.getElem?_eq_some_iff.1 hx).1
 rw [FO hk]
 have e:=JK (s:=Am s) (a:=i) (x:=x) (y:=y) h1 hx hy
 rw [e,Jd h hk (AV hx) (AV hy)]
 have ep:(Am s).parts=s.parts:=rfl
 rw [ep]
 have e2:(i+2).toNat=i.toNat+2:=by omega
 congr 2
 rw [e2,List.nil_append,List.nil_append,List.drop_zero,List.take_length]
 congr 1
 ·rw [List.take_add_one,List.take_set_of_le (Nat.le_refl _),List.getElem?_set_self (by exact hx2)]
  rfl
 ·rw [List.drop_set_of_lt AB]
end Go.Proofs.YtggnnidleedpaaaGreat
namespace Go.Proofs.YtggnnidleedpaaaGreat
set_option maxRecDepth 100000
set_option maxHeartbeats 4000000
variable {w:World} {F:Nat→Prop}
theorem Ih {r n c i:Nat}{xs:List Prt}{a b:Int}(ho:Own w r 48 F n c xs) (ha:a=(i:Int)) (hb:b=(i:Int)+1) (hi:i< n) (hn:n≤1000000):Calls Tryz.prog 100 [.slice (some ⟨r,0,none⟩) n c,.int .i64 a,.int .i64 b].toArray w (BB fun rv w'=>(rv=.slice (some ⟨r,0,none⟩) (n - 1) c∧Own w' r 48 F (n - 1) c (xs.take i++xs.drop (i+1)))∧Chg (one r) w w'):=by
 subst ha hb
 refine goT func100 ?_
 have hle:=ho.le
 obtain ⟨cs,hB,hl⟩:=ho.Sz
 have hz:Rep.sz Prt=2:=rfl
 rw [hz] at hl
 refine .s<|.g<|.r 1<|.d<|.s<|.g<|.r 5<|RG.Tv (t:=29) (k:=.i64) (k2:=.i64) (k3:=.i64) (a:=some ⟨r,0,none⟩) (len:=n) (cap:=c) (i1:=(i:Int)) (i2:=(i:Int)+1) (i3:=(n:Int)) (sz:=2) i (i+1) n AA AA rfl AB rfl AB AB hle fun v_=>.d<|.s<|.s<|.g<|.r 2<|.eq (i:Int) ((i:Int)+1) (fun h=>absurd (show False by omega) id) fun _=>.d<|.cf<|.sk<|.s<|.g<|.r 3<|.d<|.s<|.gd (one r) 7 fun w1 hx1=>?_
 refine .r [0,1]<|GA.GR (i:=2) (t:=29) (r:=r) (o:=0) (len:=n) (cap:=c) (lo:=none) (hi:=some (vI (i:Int))) (sz:=2) 0 i AA AA AA (.inl ⟨rfl,rfl⟩) (.inr ⟨_,_,rfl,rfl⟩) AB AB AB<|.r [3,4]<|GA.Tw (i:=5) (t:=29) (r:=r) (len:=n) (cap:=c) (lo:=some (vI ((i:Int)+1))) (hi:=none) (sz:=2) (i+1) n AA AA AA (.inr ⟨_,_,rfl,by omega⟩) (.inl ⟨rfl,rfl⟩) AB AB fun a2 c2 h2=>?_
 refine .go 6<|GE.append (T:=29) (ty:=29) (args:=[.slice (some ⟨r,0,none⟩) i c,.slice a2 (n - (i+1)) c2]) AA fun w2 hx2=>?_
 have hx12:Ext w w2:=hx1.trans hx2
 have m1:(i+1) * 2+(n - (i+1)) * 2=n * 2:=by omega
 have hB2:=hB.ext hx12
 obtain ⟨w3,hr,hB3,hx3⟩:=L9 (P:=Tryz.prog) (T:=29) (ty:=29) (t:=48) (sz:=2) (i:=i) (c:=c) (m:=n - (i+1)) (c':=c2) (a2:=a2) (vs:=(cs.drop ((i+1) * 2)).take ((n - (i+1)) * 2)) AA hB2
  (fun hp=>⟨_,h2 hp,fun k u hu=>by
   rw [add_lit]
   unfold Box at hB2
   simp only [World.cell?,hB2]
   rw [List.getElem?_take] at hu
   split at hu
   ·rw [List.getElem?_drop] at hu
    simpa using hu
   ·cases hu⟩) (by rw [List.length_take,List.length_drop]; omega) AB (by rw [List.length_take,List.length_drop]; omega) (fun v hv=>ho.Dr (i:=i+1) hB v AB hv)
 refine ⟨_,w3,hr,hx3,.d fun w4 hx4=>.r 1<|.d<|.s<|.g<|.r 4<|?_⟩
 have hB4:=hB3.ext hx4
 have hlen:i+(n - (i+1))=n - 1:=by omega
 rw [hlen]
 refine RG.GR (t:=29) (r:=r) (o:=0) (len:=n - 1) (cap:=c) (lo:=some (vI ((n - 1:Nat):Int))) (hi:=some (vI (n:Int))) (sz:=2) (n - 1) n AA AA (.inr ⟨_,_,rfl,rfl⟩) (.inr ⟨_,_,rfl,rfl⟩) AB AB AB ?_
 have h1:n - (n - 1)=1:=by omega
 rw [h1]
 have hl4:(BQ cs (i * 2) ((cs.drop ((i+1) * 2)).take ((n - (i+1)) * 2))).length=c * 2:=by rw [Di (by rw [List.length_take,List.length_drop]; omega)]; exact hl
 obtain ⟨vs,w5,hr5,hv5,hB5,hx5⟩:=MA (P:=Tryz.prog) (T:=29) (ty:=0) (t:=48) (sz:=2) (o:=0+(n - 1) * 2) (c:=c - (n - 1)) AA hB4 AB
 rw [Nat.zero_add] at hB5
 have hd:=KY (sz:=2) hl hi hle rfl hv5
 have hx:Chg (one r) w w5:=(((hx12.chg (S:=one r)).trans hx3).trans hx4.chg).trans hx5
 refine RG.clear (ats:=[29]) (ty:=0) (args:=[.slice (some ⟨r,0+(n - 1) * 2,none⟩) 1 (c - (n - 1))]) AA hr5<|.d<|.s<|.g<|.r 2<|.d<|.rt func100 results100 (.slice (some ⟨r,0,none⟩) (n - 1) c) ⟨⟨rfl,Own.P6 ho hx hB hB5 (by rw [hz]; exact hd.1) hi (by rw [hz]; exact hd.2)⟩,hx⟩
end Go.Proofs.YtggnnidleedpaaaGreat
namespace Go.Proofs.YtggnnidleedpaaaGreat
set_option maxRecDepth 100000
set_option maxHeartbeats 4000000
variable {w:World} {F:Nat→Prop} {a1 a2 a3 a4:Option Addr} {n1 c1 n2 c2 n3 c3 n4 c4:Nat}
set_option maxRecDepth 100000 in
set_option maxHeartbeats 4000000 in
theorem HP (s:Sto) (at_:Int) (h1:RepS w F a1 n1 c1 s.idx.names) (h2:RepS w F a2 n2 c2 s.idx.AY) (h3:RepS w F a3 n3 c3 s.parts) (h4:RepS w F a4 n4 c4 s.mem) (p0:SD s):Calls Tryz.prog 58 [.agg #[.slice a1 n1 c1,.slice a2 n2 c2,.slice a3 n3 c3,.slice a4 n4 c4],.int .i64 at_].toArray w (BB fun rv w'=>(∃ v0,rv=.tuple #[v0,.bool ((Ba s at_).2)]∧VS (fo F w.heap.size) w' ((Ba s at_).1:Sto) v0)∧Ext w w'):=by
 refine goT func58 ?_
 obtain ⟨rfl,dO,h1⟩:=h1.tp
 obtain ⟨rfl,dP,h2⟩:=h2.tp
 obtain ⟨rfl,dQ,h3⟩:=h3.tp
 obtain ⟨rfl,dR,h4⟩:=h4.tp
 refine .s<|.g<|.np 32 [.slice a1 s.idx.names.length c1,.slice a2 s.idx.AY.length c2,.slice a3 s.parts.length c3,.slice a4 s.mem.length c4] fun af eN bD aV J cL=>?_
 replace ⟨h1,h2,h3,h4⟩:=(sn [] aV bD).g4 h1 h2 h3 h4
 have C:=aV
 refine .np 32 [AH,AH,AH,AH] fun ah dj aP bE aa cM=>?_
 have dS:=AX aP J.lt
 have dT:=C.cn aP
 replace ⟨h1,h2,h3,h4,J,C⟩:=(sn [af] bE aP).g6 h1 h2 h3 h4 J C
 refine .r 1<|.d<|.s<|.s<|.g<|.ln J<|.cl (Ef s h1.ta h2.ta h3.ta h4.ta p0 (w:=dj) (F:=all)) ?_
 rintro eO bU ⟨rfl,bF⟩
 replace ⟨h1,h2,h3,h4,J,aa,C⟩:=(se [ah,af] bF).g7 h1 h2 h3 h4 J aa C
 cases dU:(Al s)
 ·refine .r 1<|.d<|.ct<|.s<|.g<|.r 1<|.sc [AH,AH,AH,AH] aa fun eP bG cN cO=>?_
  replace ⟨h1,h2,h3,h4,J,C⟩:=(so [ah,af] bG).g6 h1 h2 h3 h4 J C
  exact .r 1<|.d<|.r2 func58 results58 (.bx cN) (.t (.bool false)) ⟨⟨_,(CJ rfl (AG (by rw [H4 ‹_›]))),(VS.of (y:=(⟨(⟨([]:List (List Tag)),([]:List Pst)⟩:Idx),([]:List Prt),([]:List Smp)⟩:Sto)) ⟨_,rfl,⟨_,_,_,_,_,_,_,_,_,_,_,_,rfl,(RepS.Aj _ _ none 0 AE),(RepS.Aj _ _ none 0 AE),(RepS.Aj _ _ none 0 AE),(RepS.Aj _ _ none 0 AE)⟩⟩ (by rw [H4 ‹_›]))⟩,C⟩
 refine .r 1<|.d<|.cf<|.sk<|.s<|.g<|.ln J<|.cl (DT s h1.ta h2.ta h3.ta h4.ta p0.nm p0.nd p0.sz (w:=bU) (F:=all)) ?_
 rintro eQ aW ⟨⟨bV,eR,bW,bX,eS,bY,ai,aT,cP,ag,bZ,b0,rfl,ab,ac,ae,az,E,aF,dV⟩,aX⟩
 have aG:=al2 aa.lt J.lt
 have aQ:Gb w.heap.size bU.heap.size:=C.size
 have bH:=Ah az J.lt
 have dW:=Ah az aa.lt
 have bI:=Bo az C.size
 have dX:Cov nil w ai:=BT az C.size
 have bJ:=Ah aF J.lt
 have dY:=Ah aF aa.lt
 have bK:=Bo aF C.size
 have bL:Mv [ah,af] [ai,ag,ah,af] bU aW:=Mv.cons (Mv.cons (Mv.ext aX) aF) az
 replace ⟨h3,J,aa,C⟩:=(sp bL aX).g4 h3 J aa C
 replace ab:RepS aW (nin (ge w.heap.size) [ai,ag,ah,af]) _ _ _ _:=RepS.Bc (s0:=w.heap.size) (M:=[ah,af]) ab aG aQ
 replace ab:=ab.base (G':=fo F w.heap.size) (fun _ _ h=>.inr h)
 have dZ:=ab.max
 replace ac:RepS aW (nin (ge w.heap.size) [ai,ag,ah,af]) _ _ _ _:=RepS.Bc (s0:=w.heap.size) (M:=[ah,af]) ac aG aQ
 replace ac:=ac.base (G':=fo F w.heap.size) (fun _ _ h=>.inr h)
 have d0:=ac.max
 replace ae:Own aW ai 48 (nin (ge w.heap.size) [ai,ag,ah,af]) _ _ _:=Own.Bc (s0:=w.heap.size) (M:=[ah,af]) ae aG aQ
 replace ae:=ae.base (G':=fo F w.heap.size) (fun _ _ h=>.inr h)
 have d3:=ae.max
 have d4:=ae.len
 replace E:Own aW ag 85 (nin (ge w.heap.size) [ai,ag,ah,af]) _ _ _:=Own.Bc (s0:=w.heap.size) (M:=[ah,af]) E aG aQ
 replace E:=E.base (G':=fo F w.heap.size) (fun _ _ h=>.inr h)
 have cQ:=ab.len
 subst cQ
 have cR:=ac.len
 subst cR
 refine .np 32 [AH,AH,AH,AH] fun aj eT ar bM cS cT=>?_
 have d7:=AX ar J.lt
 have d8:=AX ar aa.lt
 have cU:=AX ar ae.lt
 have b6:=AX ar E.lt
 have dm:=C.cn ar
 replace ⟨h3,J,aa,ab,ac,ae,E,C⟩:=(sn [ai,ag,ah,af] bM ar).g8 h3 J aa ab ac ae E C
 refine .sc [.slice bV (((((Am s)).idx).names).length) bW,.slice bX (((((Am s)).idx).AY).length) bY,vS ai aT cP,vS ag bZ b0] cS fun cV aY W b7=>?_
 replace ⟨h3,J,aa,ab,ac,ae,E,C⟩:=(so [aj,ai,ag,ah,af] aY).g8 h3 J aa ab ac ae E C
 refine .d<|.s<|.s<|.g<|.r 2<|.lb J<|.r 1<|RG.int ((s.parts.length:Int) - 2) AA (by have:=p0.np; omega)<|.cl (CM at_ 0 ((s.parts.length:Int) - 2) (w:=cV) (F:=all)) ?_
 rintro d9 aI ⟨rfl,aZ⟩
 replace ⟨h3,J,aa,ab,ac,ae,E,W,C⟩:=(se [aj,ai,ag,ah,af] aZ).g9 h3 J aa ab ac ae E W C
 cases ba:(inR at_ 0 ((s.parts.length:Int) - 2))
 ·refine .r 1<|.d<|.ct<|.s<|.g<|.ln W<|.sc [.slice bV (((((Am s)).idx).names).length) bW,.slice bX (((((Am s)).idx).AY).length) bY,vS ai aT cP,vS ag bZ b0] aa fun bN bc b8 b9=>?_
  replace ⟨h3,J,ab,ac,ae,E,W,C⟩:=(so [aj,ai,ag,ah,af] bc).g8 h3 J ab ac ae E W C
  refine .r 1<|.d ?_
  have bd:=ae.sl (.inr bI)
  replace ⟨h3,ab,ac,E⟩:=(sd bN [aj,ai,ag,ah,af] ai).g4 h3 ab ac E
  have cW:=E.sl (.inr bK)
  replace ⟨h3,ab,ac,bd⟩:=(sd bN [aj,ag,ah,af] ag).g4 h3 ab ac bd
  exact .r2 func58 results58 (.bx b8) (.t (.bool false)) ⟨⟨_,(CJ rfl (AG (by rw [Je p0 ‹_› ‹_›]))),(VS.of (y:=(⟨(⟨(((Am s)).idx).names,(((Am s)).idx).AY⟩:Idx),((Am s)).parts,((Am s)).mem⟩:Sto)) ⟨_,rfl,⟨_,_,_,_,_,_,_,_,_,_,_,_,rfl,ab.w1,ac.w1,bd.w1,cW.w1⟩⟩ (by rw [Je p0 ‹_› ‹_›]))⟩,C⟩
 have dq:=CF ba
 refine .r 1<|.d<|.cf<|.sk<|.s ?_
 replace h3:=h3.BO
 replace ab:=ab.BO
 replace ac:=ac.BO
 have bg:Gb (af+1) aI.heap.size:=J.lt
 have cd:Cov (mtb [ai,ag] aI.heap.size) aI ai:=⟨.inl (.inl AI)⟩
 have ce:Gb (aj+1) aI.heap.size:=W.lt
 refine .gd (mtb [ai,ag] aI.heap.size) 20 fun ec bh=>?_
 replace ⟨h3,J,aa,ab,ac,ae,E,W,C⟩:=(se [aj,ai,ag,ah,af] bh).g9 h3 J aa ab ac ae E W C
 refine .r [0]<|.lb 1 W (BL (all_cons cU (all_cons b6 all_nil)) ce)<|.r [2,3]<|.lb 4 J (BL (all_cons (Nb.symm bH) (all_cons (Nb.symm bJ) all_nil)) bg)<|.r [5] ?_
 have bi:at_.toNat< s.parts.length:=(by have q2:=CF ‹_›; have q3:(Am s).parts.length=s.parts.length:=rfl; omega)
 refine GA.idx (i:=6) (at_.toNat) (len:=s.parts.length) (z:=at_) (sz:=2) AA (by have q2:=CF ‹_›; omega) bi (h3.addr (Nat.zero_lt_of_lt bi)) ?_
 obtain ⟨au,aC⟩:∃ y,s.parts[at_.toNat]? = some y:=⟨_,AU (by have q2:=CF ‹_›; omega)⟩
 have cX:=AV aC
 obtain ⟨_,⟨ed,ee,ef,eg,eh,ej,rfl,bj,bk⟩,cg⟩:=h3.elem (at_.toNat) au aC
 have ci:=bj.len
 subst ci
 have cj:=bk.len
 subst cj
 refine .lg 7 0 cg (h3.nS (Dd aC) (all_cons AJ (all_cons AK all_nil)))<|.r [8]<|.lb 9 J (BL (all_cons (Nb.symm bH) (all_cons (Nb.symm bJ) all_nil)) bg)<|.r [10]<|GA.int (i:=11) (at_+1) AA (by have:=p0.np; omega) ?_
 have bm:(at_+1).toNat< s.parts.length:=(by have q2:=CF ‹_›; have q3:(Am s).parts.length=s.parts.length:=rfl; omega)
 refine GA.idx (i:=12) ((at_+1).toNat) (len:=s.parts.length) (z:=at_+1) (sz:=2) AA (by have q2:=CF ‹_›; omega) bm (h3.addr (Nat.zero_lt_of_lt bm)) ?_
 obtain ⟨av,aD⟩:∃ y,s.parts[(at_+1).toNat]? = some y:=⟨_,AU (by have q2:=CF ‹_›; omega)⟩
 have cY:=AV aD
 obtain ⟨_,⟨ek,en,et,ey,ez,eA,rfl,bn,bo⟩,ck⟩:=h3.elem ((at_+1).toNat) av aD
 have cm:=bn.len
 subst cm
 have co:=bo.len
 subst co
 refine .lg 13 0 ck (h3.nS (Dd aD) (all_cons AJ (all_cons AK all_nil)))<|.go 14<|.cl (fun bq aq=>D0 au av (bj.ta.ext aq) (bk.ta.ext aq) (bn.ta.ext aq) (bo.ta.ext aq) (by exact (p0.part _ ‹_›).sz) (by exact (p0.part _ ‹_›).sz) (w:=bq) (F:=all)) ?_
 intro bq aq
 replace ⟨J,aa,ab,ac,ae,E,W,C⟩:=(se [aj,ai,ag,ah,af] aq).g8 J aa ab ac ae E W C
 rintro eB cZ ⟨⟨eC,rfl,⟨_,rfl,⟨c7,eD,c8,c9,eE,da,rfl,aw,ax⟩⟩⟩,aK⟩
 have aL:=al5 W.lt ae.lt E.lt aa.lt J.lt
 have br:Gb w.heap.size bq.heap.size:=C.size
 have hkeep_:=aK
 replace ⟨J,aa,ab,ac,ae,E,W,C⟩:=(se [aj,ai,ag,ah,af] aK).g8 J aa ab ac ae E W C
 refine ⟨Ext.chg hkeep_,?_⟩
 have aw:=aw.fr aL br
 replace aw:=aw.base (G':=fo F w.heap.size) (fun _ _ h=>.inr h)
 have dy:=aw.max
 have ax:=ax.fr aL br
 replace ax:=ax.base (G':=fo F w.heap.size) (fun _ _ h=>.inr h)
 have dz:=ax.max
 have cp:=aw.len
 subst cp
 have cq:=ax.len
 subst cq
 refine .r [15,16,17] ?_
 have cr:at_.toNat< aT:=(by have q2:=CF ‹_›; have q3:(Am s).parts.length=s.parts.length:=rfl; omega)
 refine GA.idx (i:=18) (b:=ai) (o:=0) (at_.toNat) (len:=aT) (z:=at_) (sz:=2) AA (by have q2:=CF ‹_›; omega) cr rfl<|.go 19 ?_
 obtain ⟨aJ,aE⟩:∃ y,(((Am s)).parts)[at_.toNat]? = some y:=⟨_,AU (by have q2:=CF ‹_›; omega)⟩
 obtain ⟨_,⟨bO,eF,bP,bQ,eG,bR,rfl,aR,aS⟩,aM⟩:=ae.elem (at_.toNat) aJ aE
 replace aR:=aR.CE (fun _ _ h=>h.1)
 replace aS:=aS.CE (fun _ _ h=>h.1)
 have cu:=aR.len
 subst cu
 have cw:=aS.len
 subst cw
 replace aM:Has cZ ⟨ai,0+(at_.toNat) * Rep.sz Prt,none⟩ [.slice bO aJ.ids.length bP,.slice bQ aJ.blocks.length bR]:=by rw [Nat.zero_add]; exact aM
 refine GE.DQ (t':=48) (q:=(at_.toNat)) (k:=0) (v:=.agg #[.slice c7 ((CL au av).1.ids.length) c8,.slice c9 ((CL au av).1.blocks.length) da]) (cs:=[.slice bO aJ.ids.length bP,.slice bQ aJ.blocks.length bR]) ((CL au av).1) ae aE aM ⟨_,_,_,_,_,_,rfl,aw.oi,ax.oi⟩ AA AA AA fun eH bt=>?_
 replace ⟨J,aa,ab,ac,E,W,C⟩:=(se [aj,ai,ag,ah,af] bt).g7 J aa ab ac E W C
 intro eI ao aN cx
 have hkeep_:=Chg.toS aN (Cov.toS cd)
 replace ⟨J,aa,ab,ac,E,W,C⟩:=(so [aj,ai,ag,ah,af] aN).g7 J aa ab ac E W C
 refine ⟨hkeep_,?_⟩
 refine .d fun eJ bu=>?_
 replace ⟨J,aa,ab,ac,ao,E,W,C⟩:=(se [aj,ai,ag,ah,af] bu).g8 J aa ab ac ao E W C
 replace ab:=ab.Aa
 replace ac:=ac.Aa
 refine .d<|.s<|.g<|.ns 0 48 [] fun aA de ak bv cy cz=>?_
 have cA:=AX ak J.lt
 have cB:=AX ak aa.lt
 have dD:=AX ak ao.lt
 have cC:=AX ak E.lt
 have cD:=AX ak W.lt
 have cE:=Ae ak C.size
 have dE:=C.cn ak
 replace ⟨J,aa,ab,ac,ao,E,W,C⟩:=(sn [aj,ai,ag,ah,af] bv ak).g8 J aa ab ac ao E W C
 have ay:Own (α:=Prt) de aA 48 (nin (fo F w.heap.size) [aA,aj,ai,ag,ah,af]) 0 0 []:=Own.Aj cy
 refine .r 1<|.lb W<|.r 1<|RG.int (at_+1) AA (by have:=p0.np; omega)<|.r 1<|RG.int (at_+2) AA (by have:=p0.np; omega) ?_
 have cF:=ao.len; rw [List.length_set] at cF
 refine .cl (Ih (i:=(at_.toNat+1)) (a:=at_+1) (b:=at_+2) ao (by have q2:=CF ‹_›; omega) (by have q2:=CF ‹_›; omega) (by have q2:=CF ‹_›; have q3:(Am s).parts.length=s.parts.length:=rfl; omega) (by have q2:=CF ‹_›; have q3:(Am s).parts.length=s.parts.length:=rfl; have q4:=p0.np; omega)) ?_
 rintro eK df ⟨⟨rfl,aO⟩,bw⟩
 replace ⟨J,aa,ab,ac,E,W,ay,C⟩:=(so [aA,aj,ai,ag,ah,af] bw).g8 J aa ab ac E W ay C
 have dG:=aO.len; have dH:=aO.max
 have dg:=aO.sl (.inr bI)
 replace ⟨ab,ac,E,ay⟩:=(sd df [aA,aj,ai,ag,ah,af] ai).g4 ab ac E ay
 refine RG.G2 (T:=29) (ty:=29) ay dg AA AA (fun b _ h=>Dx AI h) (by have q1:=p0.np; have q2:(Am s).parts.length=s.parts.length:=rfl; omega) fun aB bS eL al am bz=>?_
 have dI:=Ag am cA J.lt
 have dJ:=Ag am cB aa.lt
 have dK:=Ag am cC E.lt
 have dL:=Ag am cD W.lt
 have cG:=Bt am cE C.size
 replace ⟨aa,ab,ac,E,W,C⟩:=(sa [aA,aj,ag,ah,af] bz am).g6 aa ab ac E W C
 replace al:=al.rn aA
 refine .r 1<|.ss 2 (vS aB (0+(aT - 1)) bS) W fun eM bA cH cI=>?_
 replace ⟨aa,ab,ac,E,al,C⟩:=(so [aB,aj,ag,ah,af] bA).g6 aa ab ac E al C
 refine .d<|.s<|.g<|.ln cH<|.sc [.slice bV (((((Am s)).idx).names).length) bW,.slice bX (((((Am s)).idx).AY).length) bY,vS aB (0+(aT - 1)) bS,vS ag bZ b0] aa fun bT bB cJ cK=>?_
 replace ⟨ab,ac,E,al,C⟩:=(so [aB,aj,ag,ah,af] bB).g5 ab ac E al C
 refine .r 1<|.d ?_
 have bC:=al.sl (.inr cG)
 replace ⟨ab,ac,E⟩:=(sd bT [aB,aj,ag,ah,af] aB).g3 ab ac E
 have dh:=E.sl (.inr bK)
 replace ⟨ab,ac,bC⟩:=(sd bT [aj,ag,ah,af] ag).g3 ab ac bC
 exact .r2 func58 results58 (.bx cJ) (.t (.bool true)) ⟨⟨_,(CJ rfl (AG (by exact (congrArg Prod.snd (MB p0 ‹_› ‹_› ‹_› ‹_›)).symm))),(VS.of (y:=(⟨(⟨(((Am s)).idx).names,(((Am s)).idx).AY⟩:Idx),([]++(((((Am s)).parts).set (at_.toNat) ((CL au av).1)).take (at_.toNat+1)++((((Am s)).parts).set (at_.toNat) ((CL au av).1)).drop ((at_.toNat+1)+1))),((Am s)).mem⟩:Sto)) ⟨_,rfl,⟨_,_,_,_,_,_,_,_,_,_,_,_,rfl,ab.w1,ac.w1,bC.w1,dh.w1⟩⟩ (by exact (congrArg Prod.fst (MB p0 ‹_› ‹_› ‹_› ‹_›)).symm))⟩,C⟩
end Go.Proofs.YtggnnidleedpaaaGreat
namespace Go.Proofs.YtggnnidleedpaaaGreat
theorem KZ {s:Sto}(h:SD s) (hk:Al s=true){id:Int}{p:List Tag→Bool}(hid:id∈Ch p 0 s.idx.names) (lo hi:Int):LK (Ge s id) lo hi=Oa (rowsOf s id) lo hi:=by
 have:=Jc hid
 rw [P0 hk this.1 this.2,Od h hk this.1 this.2]
def Cy (s:Sto) (f:List Cnd) (lo hi:Int) (i k:Nat):Prop:=((Ch (Du f) 0 s.idx.names).drop i).flatMap (LL s lo hi)=(Ig s f lo hi).drop k
theorem Cy.start {s:Sto}{f:List Cnd}{lo hi:Int}(h:SD s) (hk:Al s=true):Cy s f lo hi 0 0:=by
 unfold Cy
 rw [Sy h hk]
 rfl
theorem Cy.skip {s:Sto}{f:List Cnd}{lo hi:Int}{i k:Nat}{id:Int}(h:Cy s f lo hi i k) (hs:SD s) (hk:Al s=true) (hd:(Ch (Du f) 0 s.idx.names).drop i=id::(Ch (Du f) 0 s.idx.names).drop (i+1)) (hl:((LK (Ge s id) lo hi).length:Int)=0):Cy s f lo hi (i+1) k:=by
 have hm:id∈Ch (Du f) 0 s.idx.names:=List.mem_of_mem_drop (by rw [hd]; simp)
 rw [KZ hs hk hm] at hl
 unfold Cy at h ⊢
 rw [hd,List.flatMap_cons] at h
 have e:LL s lo hi id=[]:=by unfold LL; rw [if_neg AB]
 rw [e,List.nil_append] at h
 exact h
theorem Cy.hit {s:Sto}{f:List Cnd}{lo hi:Int}{i k:Nat}{id:Int}(h:Cy s f lo hi i k) (hs:SD s) (hk:Al s=true) (hd:(Ch (Du f) 0 s.idx.names).drop i=id::(Ch (Du f) 0 s.idx.names).drop (i+1)) (hl:((LK (Ge s id) lo hi).length:Int)≠0){n:List Tag}(hn:s.idx.names[(id - 1).toNat]? = some n) :
 (Ig s f lo hi)[k]? = some ⟨KW n,LK (Ge s id) lo hi⟩∧Cy s f lo hi (i+1) (k+1):=by
 have hm:id∈Ch (Du f) 0 s.idx.names:=List.mem_of_mem_drop (by rw [hd]; simp)
 rw [KZ hs hk hm] at hl ⊢
 unfold Cy at h ⊢
 rw [hd,List.flatMap_cons] at h
 have e:LL s lo hi id=[⟨KW n,Oa (rowsOf s id) lo hi⟩]:=by
  unfold LL
  rw [if_pos AB,List.getD_eq_getElem?_getD,hn,P2 (hs.nm.ok n (AV hn))]
  rfl
 rw [e,List.cons_append,List.nil_append] at h
 constructor
 ·have:=congrArg (fun l=>l[0]?) h
  simp only [List.getElem?_cons_zero,List.getElem?_drop,Nat.add_zero] at this
  exact this.symm
 ·have:=congrArg List.tail h
  rw [List.tail_cons,List.tail_drop] at this
  exact this
theorem Cy.fin {s:Sto}{f:List Cnd}{lo hi:Int}{i k:Nat}(h:Cy s f lo hi i k) (hi2:(Ch (Du f) 0 s.idx.names).length≤i):(Ig s f lo hi).length≤k:=by
 unfold Cy at h
 rw [Ab hi2] at h
 have:=congrArg List.length h
 simp only [List.flatMap_nil,List.length_nil,List.length_drop] at this
 omega
theorem Cy.no1 {s:Sto}{f:List Cnd}{lo hi:Int}{i k:Nat}{id:Int}(h:Cy s f lo hi i k) (hs:SD s) (hk:Al s=true) (hd:(Ch (Du f) 0 s.idx.names).drop i=id::(Ch (Du f) 0 s.idx.names).drop (i+1)) (hl:((LK (Ge s id) lo hi).length:Int)≠0) (hb:(k:Int)≥((Ig s f lo hi).length:Int)):False:=by
 have hm:id∈Ch (Du f) 0 s.idx.names:=List.mem_of_mem_drop (by rw [hd]; simp)
 have h2:=Jc hm
 obtain ⟨n,hn⟩:∃ n,s.idx.names[(id - 1).toNat]? = some n:=⟨_,AU AB⟩
 have h3:=(List.getElem?_eq_some_iff.1 (h.hit hs hk hd hl hn).1).1
 omega
theorem Cy.no2 {s:Sto}{f:List Cnd}{lo hi:Int}{i k:Nat}{id:Int}(h:Cy s f lo hi i k) (hs:SD s) (hk:Al s=true) (hd:(Ch (Du f) 0 s.idx.names).drop i=id::(Ch (Du f) 0 s.idx.names).drop (i+1)) (hl:((LK (Ge s id) lo hi).length:Int)≠0){n:List Tag}(hn:s.idx.names[(id - 1).toNat]? = some n){b:Hit}(hb:(Ig s f lo hi)[k]? = some b)
 (hf:(b.name==KW n)=false∨(b.name != KW n)=true∨(b.rows==LK (Ge s id) lo hi)=false):False:=by
 have h3:=(h.hit hs hk hd hl hn).1
 rw [hb] at h3
 simp only [Option.some.injEq] at h3
 subst h3
 rcases hf with hf | hf | hf <;> simp at hf
end Go.Proofs.YtggnnidleedpaaaGreat
namespace Go.Proofs.YtggnnidleedpaaaGreat
theorem Oj {s:Sto}(h:SD s) (h1:(Bv s).2=true):(Bv s).1=DE s∧Al s=true∧s.mem≠[]∧s.parts.length< 6:=by
 cases hk:Al s with
 | false=>rw [H0 hk] at h1; cases h1
 | true =>
   by_cases hc:(s.mem.length:Int)=0∨(s.parts.length:Int)=6
   ·rw [F3 h hk hc] at h1; cases h1
   ·have h6:=LI hk
    rw [HM h hk AB AB]
    refine ⟨?_,rfl,fun e=>?_,by omega⟩
    ·show (⟨(Am s).idx,(Am s).parts++[BJ s.mem],[]⟩:Sto)=DE s
     rw [h.copy]
     rfl
    ·rw [e] at hc; simp at hc
theorem P7 {s x:Sto}{f:List Cnd}(hi:x.idx=s.idx) (hk:Al s=Al x) (hr:Al s=true→∀ id:Int,1≤id→id≤s.idx.names.length→rowsOf x id=rowsOf s id) (lo hi2:Int):Ig x f lo hi2=Ig s f lo hi2:=by
 unfold Ig
 rw [← hk]
 cases hs:Al s&&H3 f with
 | false=>rfl
 | true =>
   simp only [AW] at hs
   rw [if_pos rfl,if_pos rfl]
   unfold RZ
   rw [hi]
   have key:∀ (l:List Int),(∀ i∈l,1≤i∧i≤s.idx.names.length)→l.flatMap (LL x lo hi2)=l.flatMap (LL s lo hi2):=by
    intro l
    induction l with
    | nil=>intro _; rfl
    | cons i is ih =>
      intro h
      rw [List.flatMap_cons,List.flatMap_cons,ih (fun j hj=>h j (by simp [hj]))]
      have h1:=h i AD
      unfold LL
      rw [hr hs.1 i h1.1 h1.2,hi]
   exact key _ (fun i hi=>Jc hi)
end Go.Proofs.YtggnnidleedpaaaGreat
namespace Go.Proofs.YtggnnidleedpaaaGreat
theorem Ka (a b:Prt){id:Int}(h1:1≤id) (h2:id≤6):partOf (BW a b) id=Bg (partOf a id) (partOf b id):=by
 unfold BW
 rw [L0 _ h1,List.getD_eq_getElem?_getD]
 unfold Be
 rw [List.getElem?_map,List.getElem?_range AB]
 simp only [Option.map_some,Option.getD_some]
 rw [show (((id - 1).toNat:Nat):Int)+1=id by omega]
def Cq (s:Sto) (k:Nat):Sto:=⟨s.idx,FM s.parts k,s.mem⟩
theorem HQ {s:Sto}{i:Int}(h:SD s) (h1:(Ba s i).2=true):Al s=true∧0≤i∧i+2≤s.parts.length∧(Ba s i).1=Cq s i.toNat:=by
 cases hk:Al s with
 | false=>rw [H4 hk] at h1; cases h1
 | true =>
   cases hr:inR i 0 ((s.parts.length:Int) - 2) with
   | false=>rw [Je h hk hr] at h1; cases h1
   | true =>
     have h2:=CF hr
     refine ⟨rfl,h2.1,by omega,?_⟩
     rw [FO hk,h.copy]
     unfold Au
     rw [if_pos hr]
     rfl
theorem ET {s:Sto}{k:Nat}(hk:k+2≤s.parts.length):∃ x y,s.parts[k]? = some x∧s.parts[k+1]? = some y∧(Cq s k).parts=s.parts.take k++[BW x y]++s.parts.drop (k+2):=by
 refine ⟨_,_,AU AB,AU AB,?_⟩
 exact GH (AU AB) (AU AB)
theorem F4 {s:Sto}(h:StoK s){k:Nat}(hk:k+2≤s.parts.length){id:Int}(h1:1≤id) (h2:id≤6):(Cq s k).parts.foldl (CK id) []=s.parts.foldl (CK id) []∧rowsOf (Cq s k) id=rowsOf s id:=by
 obtain ⟨x,y,hx,hy,e⟩:=ET hk
 have key:(Cq s k).parts.foldl (CK id) []=s.parts.foldl (CK id) []:=by
  have hs:s.parts=s.parts.take k++[x,y]++s.parts.drop (k+2):=by
   have e1:=List.take_append_drop k s.parts
   rw [Ai hx,Ai hy] at e1
   rw [List.append_assoc]
   exact e1.symm
  rw [e]
  conv=>rhs; rw [hs]
  simp only [List.foldl_append,List.foldl_cons,List.foldl_nil]
  congr 1
  have px:=h.sd.part x (AV hx)
  have py:=h.sd.part y (AV hy)
  have ho:Blk ((s.parts.take k).foldl (CK id) []):=FB (fun p hp=>h.sd.part p (List.mem_of_mem_take hp)) Blk.nil
  unfold CK
  rw [Ka x y h1 h2]
  exact (LH ho (px.of id) (py.of id)).symm
 refine ⟨key,?_⟩
 unfold rowsOf
 rw [key]
 rfl
theorem Jf {p:Prt}{n:Int}(h:Bw p n=true):∃ id:Int,1≤id∧id≤6∧id≤n∧0< (partOf p id).length:=by
 have hle:=I1 h
 unfold Bw at h
 simp only [AW] at h
 obtain ⟨h1,h2⟩:=h
 unfold Az at h1
 simp only [AW,decide_eq_true_eq] at h1
 obtain ⟨h3,h4⟩:=h1
 unfold partOf
 cases hi:p.ids with
 | nil=>rw [hi] at h2; simp at h2
 | cons i is =>
   cases hb:p.blocks with
   | nil=>rw [hi,hb] at h3; simp at h3
   | cons b bs =>
     rw [hi,hb] at h4
     unfold CA at h4
     simp only [AW,decide_eq_true_eq] at h4
     have h5:=CF h4.1.1.1.1
     refine ⟨i,h5.1,h5.2,hle i (by rw [hi]; simp),?_⟩
     unfold Bm
     rw [if_pos AD]
     exact h4.1.1.2
theorem MC {s:Sto}(h:SD s) (hk:Al s=true){x y:Prt}(hx:x∈s.parts) (hy:y∈s.parts){id:Int}(h1:1≤id) (h2:id≤6):Blk (Bg (partOf x id) (partOf y id))∧(Bg (partOf x id) (partOf y id)).length≤24:=by
 have e:=Jd h hk hx hy
 unfold CL at e
 split at e
 ·rename_i hc
  obtain ⟨ox,oy,hm⟩:=hc
  unfold okM at hm
  rw [List.all_eq_true] at hm
  have:=hm (id - 1).toNat (by rw [List.mem_range]; omega)
  rw [show (((id - 1).toNat:Nat):Int)+1=id by omega] at this
  have e1:BV x id=partOf x id:=by unfold BV; rw [if_pos ox]
  have e2:BV y id=partOf y id:=by unfold BV; rw [if_pos oy]
  rw [e1,e2] at this
  refine ⟨(IM (FC ox id)).merge (IM (FC oy id)),?_⟩
  unfold CN at this
  split at this
  ·rename_i hc; have:=hc.2.2; omega
  ·cases this
 ·exact absurd (congrArg Prod.snd e) AD
theorem GL {s:Sto}(h:SD s) (hk:Al s=true){k:Nat}(hl:k+2≤s.parts.length):Al (Cq s k)=true:=by
 have hK:=StoK.of h hk
 obtain ⟨x,y,hx,hy,e⟩:=ET hl
 have mx:=AV hx
 have my:=AV hy
 have hn:=h.nm.len
 have hk2:=hk
 unfold Al at hk2 ⊢
 simp only [AW,decide_eq_true_eq,List.all_eq_true,List.mem_range,EJ] at hk2 ⊢
 obtain ⟨⟨⟨⟨a1,a2⟩,a3⟩,a4⟩,a5⟩:=hk2
 refine ⟨⟨⟨⟨?_,a2⟩,fun p hp=>?_⟩,a4⟩,fun i hi=>?_⟩
 ·rw [e]
  simp only [List.length_append,List.length_take,List.length_drop,List.length_cons,List.length_nil]
  omega
 ·rw [e] at hp
  simp only [List.mem_append,List.mem_cons,List.not_mem_nil,or_false] at hp
  rcases hp with (hp | rfl) | hp
  ·exact a3 p (List.mem_of_mem_take hp)
  ·show Bw (C2 (Be x y 6)) s.idx.names.length=true
   have hblk:∀ (i:Nat) b,(Be x y 6)[i]? = some b→i< 6∧b=Bg (partOf x ((i:Int)+1)) (partOf y ((i:Int)+1)):=fun i b hb=>by
    unfold Be at hb
    rw [List.getElem?_map] at hb
    by_cases hi:i< 6
    ·rw [List.getElem?_range hi] at hb
     simp only [Option.map_some,Option.some.injEq] at hb
     exact ⟨hi,hb.symm⟩
    ·rw [List.getElem?_eq_none (by simp; omega)] at hb
     cases hb
   refine L2 (fun b hb=>?_) (by rw [DX]; omega) ?_ (fun i b hb hp=>?_)
   ·obtain ⟨i,hi⟩:=List.mem_iff_getElem?.1 hb
    obtain ⟨h6,rfl⟩:=hblk i b hi
    exact MC h hk mx my AB AB
   ·obtain ⟨id,g1,g2,_,g4⟩:=Jf (a3 x mx)
    refine ⟨Bg (partOf x id) (partOf y id),?_,?_⟩
    ·unfold Be
     refine List.mem_map.2 ⟨(id - 1).toNat,by simp; omega,?_⟩
     rw [show (((id - 1).toNat:Nat):Int)+1=id by omega]
    ·have bx:=(h.part x mx).of id
     have by':=(h.part y my).of id
     have:=LG bx (bx.merge by') (fun t ht=>by
      rw [Cg t _ bx by']
      cases look t (partOf y id) with
      | none=>exact ht
      | some q=>rfl)
     omega
   ·obtain ⟨h6,rfl⟩:=hblk i b hb
    by_cases hin:i< s.idx.names.length
    ·exact hin
    ·rw [H5 (p:=x) (fun j hj=>by have:=I1 (a3 x mx) j hj; omega),H5 (p:=y) (fun j hj=>by have:=I1 (a3 y my) j hj; omega)] at hp
     exact absurd hp AE
  ·exact a3 p (List.mem_of_mem_drop hp)
 ·rw [(F4 hK hl AB (by have:i< s.idx.names.length:=hi; omega)).2]
  exact a5 i hi
theorem Ok {s:Sto}(h:SD s){k:Nat}(hl:k+2≤s.parts.length):SD (Cq s k):=by
 obtain ⟨x,y,hx,hy,e⟩:=ET hl
 refine ⟨h.idx,h.nm,h.nd,?_,fun p hp=>?_,h.nm2,h.mem⟩
 ·have:=h.np
  rw [e]
  simp only [List.length_append,List.length_take,List.length_drop,List.length_cons,List.length_nil]
  omega
 ·rw [e] at hp
  simp only [List.mem_append,List.mem_cons,List.not_mem_nil,or_false] at hp
  rcases hp with (hp | rfl) | hp
  ·exact h.part p (List.mem_of_mem_take hp)
  ·exact (h.part x (AV hx)).merge (h.part y (AV hy))
  ·exact h.part p (List.mem_of_mem_drop hp)
section
variable {s:Sto} {i:Int}
theorem P8 (h:SD s) (h1:(Ba s i).2=true):SD (Ba s i).1:=by
 obtain ⟨_,h2,h3,e⟩:=HQ h h1
 rw [e]
 exact Ok h AB
theorem NA (h:SD s) (h1:(Ba s i).2=true):Ig (Ba s i).1 [] 0 99=Ig s [] 0 99∧Al (Ba s i).1=true:=by
 obtain ⟨hk,h2,h3,e⟩:=HQ h h1
 have h5:=GL h hk (k:=i.toNat) AB
 rw [e]
 exact ⟨P7 (x:=Cq s i.toNat) (s:=s) rfl (hk.trans h5.symm) (fun _ id a b=>(F4 (StoK.of h hk) AB a (by have:=h.nm.len; omega)).2) _ _,h5⟩
theorem Ol (h:SD s) (h1:(Ba s i).2=true):(Ba s i).1.parts.length+1=s.parts.length∧0≤i∧i+2≤s.parts.length∧i+1≤(Ba s i).1.parts.length:=by
 obtain ⟨hk,h2,h3,e⟩:=HQ h h1
 obtain ⟨x,y,hx,hy,e2⟩:=ET (s:=s) (k:=i.toNat) AB
 rw [e,e2]
 simp only [List.length_append,List.length_take,List.length_drop,List.length_cons,List.length_nil]
 omega
end
end Go.Proofs.YtggnnidleedpaaaGreat
namespace Go.Proofs.YtggnnidleedpaaaGreat
theorem P9 (v:Int):∀ (l:List Int) (i:Nat),l.contains v=decide (Db v i l≥0):=by
 intro l
 induction l with
 | nil=>intro i; simp [Db]
 | cons x xs ih =>
   intro i
   have:=ih (i+1)
   have e:Db v i (x::xs)=if x==v then (i:Int) else Db v (i+1) xs:=rfl
   rw [e,List.contains_cons,this]
   by_cases h:x=v
   ·subst h; simp
   ·have h1:(x==v)=false:=beq_eq_false_iff_ne.2 h
    have h2:(v==x)=false:=beq_eq_false_iff_ne.2 (fun e=>h e.symm)
    rw [h1,h2]
    simp
def DJ (nx:Int):Option Int→List Fil→Bool
 | _,[]=>true
 | o,f::fs=>inR f.num 1 (nx - 1)&&(match o with | some q=>decide (q< f.num) | none=>true)&&Az f.part&&DJ nx (some f.num) fs
def Da (d:Dsk):Bool:=d.list.all (fun n=>decide (0≤Av d n))&&decide d.list.Nodup
def BI (d:Dsk):Bool:=inR d.next 1 999&&decide (d.files.length≤20)&&decide (d.list.length≤6)&&DJ d.next none d.files&&Da d&&(nmB d.names&&Al (At d))
structure DD (d:Dsk):Prop where
 g:NmG d.names
 nl:d.list.length≤7
 nf:d.files.length≤20
 file:∀ f∈d.files,PrtI f.part
 next:0≤d.next∧d.next≤999
theorem DD.part {d:Dsk}(h:DD d) (n:Int):PrtI (BH d n):=by
 unfold BH
 rw [List.getD_eq_getElem?_getD]
 cases hx:d.files[(Av d n).toNat]? with
 | none=>exact PrtI.nil
 | some f=>exact h.file f (AV hx)
theorem DD.sg {d:Dsk}(h:DD d):SG (At d):=by
 refine ⟨⟨h.g,fun _=>rfl⟩,by simp [At]; exact h.nl,fun p hp=>?_,by simp [At],by simp [At]⟩
 simp only [At,List.mem_map] at hp
 obtain ⟨n,_,rfl⟩:=hp
 exact h.part n
def Ii (fs:List Fil) (k:Nat):Option Int:=prev (fs.map Fil.num) k
theorem MD {nx:Int}{fs:List Fil}{k:Nat}{f:Fil}{b:Bool}(h:DJ nx (Ii fs k) (fs.drop k)=b) (hd:fs.drop k=f::fs.drop (k+1)) (hf:fs[k]? = some f) (h1:inR f.num 1 (nx - 1)=true) (h2:k=0∨∃ q,fs[k - 1]? = some q∧¬ q.num≥f.num) (h3:Az f.part=true):DJ nx (Ii fs (k+1)) (fs.drop (k+1))=b:=by
 rw [hd] at h
 unfold DJ at h
 have e:Ii fs (k+1)=some f.num:=by unfold Ii; rw [OC,List.getElem?_map,hf]; rfl
 have e2:(match Ii fs k with | some q=>decide (q< f.num) | none=>true)=true:=by
  rcases h2 with rfl | ⟨q,hq,hlt⟩
  ·rfl
  ·by_cases hk:k=0
   ·subst hk; rfl
   ·have:Ii fs k=some q.num:=by unfold Ii; rw [Ld _ _ AB,List.getElem?_map,hq]; rfl
    rw [this]
    simp
    omega
 rw [h1,h3,e2] at h
 rw [e]
 simpa using h
theorem LM {nx:Int}{fs:List Fil}{k:Nat}{f:Fil}{b:Bool}(h:DJ nx (Ii fs k) (fs.drop k)=b) (hd:fs.drop k=f::fs.drop (k+1)) (h1:inR f.num 1 (nx - 1)=false∨(0< k∧∃ q,fs[k - 1]? = some q∧q.num≥f.num)∨Az f.part=false):b=false:=by
 rw [hd] at h
 unfold DJ at h
 rw [← h]
 rcases h1 with h1 | ⟨hk,q,hq,hge⟩ | h1
 ·rw [h1]; simp
 ·have:Ii fs k=some q.num:=by unfold Ii; rw [Ld _ _ AB,List.getElem?_map,hq]; rfl
  have e2:decide (q.num< f.num)=false:=decide_eq_false AB
  rw [this]
  simp only [e2]
  simp
 ·rw [h1]; simp
theorem Rj {nx:Int}{fs:List Fil}{k:Nat}{b:Bool}(h:DJ nx (Ii fs k) (fs.drop k)=b) (hk:fs.length≤k):b=true:=by
 rw [Ab hk] at h
 exact h.symm
def QA (d:Dsk) (k:Nat):Prop:=∀ j n,j< k→d.list[j]? = some n→0≤Av d n∧n∉d.list.take j
theorem S0 (d:Dsk):QA d 0:=fun j _ h=>absurd h AB
def fresh (d:Dsk) (n:Int) (k:Nat):Prop:=n∉d.list.take k
theorem QB {d:Dsk}{n:Int}{k:Nat}(h:((d.list.take k).drop 0).contains n=false):fresh d n k:=by
 unfold fresh
 rw [List.drop_zero] at h
 intro hm
 rw [List.contains_iff_mem.2 hm] at h
 cases h
theorem Om {d:Dsk}{k j:Nat}{n:Int}(h:QA d k) (hn:d.list[k]? = some n) (h1:¬ Av d n< 0) (h2:fresh d n j) (hj:k≤j):QA d (k+1):=fun i m hi hm=>by
 by_cases e:i=k
 ·subst e
  rw [hn] at hm
  cases hm
  refine ⟨by omega,fun hmem=>h2 ?_⟩
  obtain ⟨a,ha⟩:=List.mem_iff_getElem?.1 hmem
  rw [List.getElem?_take] at ha
  split at ha
  ·exact List.mem_iff_getElem?.2 ⟨a,by rw [List.getElem?_take,if_pos AB]; exact ha⟩
  ·cases ha
 ·exact h i m AB hm
theorem ME {d:Dsk}{k:Nat}(h:QA d k) (hk:d.list.length≤k):Da d=true:=by
 unfold Da
 rw [AW,List.all_eq_true,decide_eq_true_eq]
 refine ⟨fun n hn=>?_,?_⟩
 ·obtain ⟨j,hj⟩:=List.mem_iff_getElem?.1 hn
  have:=(h j n (by have:=(List.getElem?_eq_some_iff.1 hj).1; omega) hj).1
  simpa using this
 ·unfold List.Nodup
  rw [List.pairwise_iff_getElem]
  intro i j hi hj hij e
  refine (h j d.list[j] AB (AU hj)).2 ?_
  rw [← e]
  exact List.mem_iff_getElem?.2 ⟨i,by rw [List.getElem?_take,if_pos hij]; exact AU hi⟩
theorem S1 {d:Dsk}{k:Nat}{n:Int}(hn:d.list[k]? = some n) (h:Av d n< 0):Da d=false:=by
 cases hb:Da d with
 | false=>rfl
 | true =>
   unfold Da at hb
   rw [AW,List.all_eq_true] at hb
   have:=hb.1 n (AV hn)
   simp at this
   omega
theorem S2 {d:Dsk}{k:Nat}{n:Int}(hn:d.list[k]? = some n) (h:n∈d.list.take k):Da d=false:=by
 cases hb:Da d with
 | false=>rfl
 | true =>
   unfold Da at hb
   rw [AW,decide_eq_true_eq] at hb
   obtain ⟨i,hi⟩:=List.mem_iff_getElem?.1 h
   rw [List.getElem?_take] at hi
   split at hi
   ·rename_i hik
    have hd:=hb.2
    unfold List.Nodup at hd
    rw [List.pairwise_iff_getElem] at hd
    obtain ⟨a1,a2⟩:=List.getElem?_eq_some_iff.1 hi
    obtain ⟨b1,b2⟩:=List.getElem?_eq_some_iff.1 hn
    exact absurd (a2.trans b2.symm) (hd i k a1 b1 hik)
   ·cases hi
theorem EC {d:Dsk}(h:Da d=true):∀ n∈d.list,0≤Av d n:=fun n hn=>by
 unfold Da at h
 rw [AW,List.all_eq_true] at h
 have:=h.1 n hn
 simpa using this
theorem S3 {d:Dsk}{k:Nat}{n:Int}(hn:d.list[k]? = some n) (h:((d.list.take k).drop 0).contains n=true):Da d=false:=by
 rw [List.drop_zero] at h
 exact S2 hn (List.contains_iff_mem.1 h)
section
variable {d:Dsk}
theorem S4 (h:inR d.next 1 999=false∨(d.files.length:Int) > 20∨(d.list.length:Int) > 6∨(d.names.length:Int) > 6):BI d=false:=by
 unfold BI
 rcases h with h | h | h | h
 ·rw [h]; simp
 ·rw [decide_eq_false (p:=d.files.length≤20) AB]; simp
 ·rw [decide_eq_false (p:=d.list.length≤6) AB]; simp
 ·rw [← RS h]; simp
theorem Rk (h:DJ d.next none d.files=false):BI d=false:=by unfold BI; rw [h]; simp
theorem Tx (h:Da d=false):BI d=false:=by unfold BI; rw [h]; simp
theorem UU (h1:inR d.next 1 999=true) (h2:¬ (d.files.length:Int) > 20) (h3:¬ (d.list.length:Int) > 6) (h5:DJ d.next none d.files=true) (h6:Da d=true):BI d=(nmB d.names&&Al (At d)):=by
 unfold BI
 rw [h1,h5,h6,decide_eq_true AB,decide_eq_true AB]
 simp
theorem UW {y:Sto}(h1:inR d.next 1 999=true) (h2:¬ (d.files.length:Int) > 20) (h3:¬ (d.list.length:Int) > 6) (h5:DJ d.next none d.files=true) (h6:Da d=true) (hd:NsD d.names) (hy:y.idx.names=d.names∧(NmI d.names→NsD d.names→y=At d)):(nmB y.idx.names&&Al y)=BI d:=by
 rw [UU h1 h2 h3 h5 h6,hy.1]
 cases hb:nmB d.names with
 | false=>rfl
 | true=>rw [hy.2 (Dk.1 hb) hd]
theorem FD (h:BI d=true):NmI d.names∧Al (At d)=true∧Da d=true:=by
 unfold BI at h
 simp only [AW] at h
 exact ⟨Dk.1 h.2.1,h.2.2,h.1.2⟩
theorem DD.sd (h:DD d) (hk:BI d=true):SD (At d):=by
 obtain ⟨h1,h2,_⟩:=FD hk
 have h3:=LI h2
 exact h.sg.sd (Dk.2 h1) h3
def CP (d:Dsk):Sto:=if BI d then At d else ⟨⟨[],[]⟩,[],[]⟩
theorem Rl (h:BI d=false):CP d=⟨⟨[],[]⟩,[],[]⟩:=by unfold CP; rw [if_neg (by simp [h])]
theorem I2 (h:BI d=true):CP d=At d:=by unfold CP; rw [if_pos h]
end
theorem On {d:Dsk}{l:List Int}{i:Nat}{n:Int}{k Y:List Prt}{f:Fil}(h:k++(l.drop i).map (BH d)=Y) (hd:l.drop i=n::l.drop (i+1)) (hf:d.files[(Av d n).toNat]? = some f):(k++[f.part])++(l.drop (i+1)).map (BH d)=Y:=by
 rw [hd,List.map_cons] at h
 rw [← h]
 have:BH d n=f.part:=by unfold BH; rw [List.getD_eq_getElem?_getD,hf]; rfl
 rw [this]
 simp
theorem QC {d:Dsk}{l:List Int}{i:Nat}{k Y:List Prt}(h:k++(l.drop i).map (BH d)=Y) (hi:l.length≤i):k=Y:=by
 rw [Ab hi] at h
 simpa using h
theorem GM {d:Dsk}{n:Int}(h:0≤Av d n):(Av d n).toNat< d.files.length∧Av d n=((Av d n).toNat:Int):=by
 have:=(Iu n d.files 0).1
 unfold Av at h ⊢
 omega
def Dm (d:Dsk) (y:Sto):Prop:=y.idx.names=d.names∧y.parts=(At d).parts∧y.mem=[]∧(NmI d.names→NsD d.names→y=At d)
theorem Dm.mk {d:Dsk}{a:List (List Tag)}{b:List Pst}{c:List Prt}{e:List Smp}(h1:a=d.names) (h2:c=d.list.map (BH d)) (h3:e=[]) (h4:NmI d.names→NsD d.names→(⟨a,b⟩:Idx)=idxOf d.names):Dm d ⟨⟨a,b⟩,c,e⟩:=by
 subst h2 h3
 refine ⟨h1,rfl,rfl,fun x y=>?_⟩
 unfold At
 rw [h4 x y]
theorem Dm.sg {d:Dsk}{y:Sto}(q:Dm d y) (h:DD d):SG y:=by
 obtain ⟨q1,q2,q3,q4⟩:=q
 refine ⟨⟨by rw [q1]; exact h.g,fun hn=>?_⟩,by rw [q2]; exact h.sg.np,fun p hp=>h.sg.part p (by rw [← q2]; exact hp),by rw [q3]; simp,by rw [q3]; simp⟩
 rw [q1] at hn ⊢
 have:=q4 hn h.g.nd
 rw [this]
 rfl
theorem Dm.eq {d:Dsk}{y:Sto}(q:Dm d y) (h:DD d) (hk:BI d=true):y=CP d:=by rw [I2 hk]; exact q.2.2.2 (FD hk).1 h.g.nd
theorem Dm.dk {d:Dsk}{y:Sto}(hy:Dm d y) (h:DD d) (h1:inR d.next 1 999=true) (h2:¬ (d.files.length:Int) > 20) (h3:¬ (d.list.length:Int) > 6) (h5:DJ d.next none d.files=true) (h6:Da d=true):(nmB y.idx.names&&Al y)=BI d:=UW h1 h2 h3 h5 h6 h.g.nd ⟨hy.1,hy.2.2.2⟩
end Go.Proofs.YtggnnidleedpaaaGreat
namespace Go.Proofs.YtggnnidleedpaaaGreat
set_option maxRecDepth 100000
set_option maxHeartbeats 4000000
variable {w:World} {F:Nat→Prop} {a1 a2 a3:Option Addr} {n1 c1 n2 c2 n3 c3:Nat}
theorem Gu (f:Fil) (num:Int) (h1:RepS w F a1 n1 c1 f.part.ids) (h2:RepS w F a2 n2 c2 f.part.blocks){bq_num:Nat}(hb_num:Box w bq_num 3 [.int .i64 num])  : Calls Tryz.prog 127 [.agg #[.int .i64 f.num,.slice a1 n1 c1,.slice a2 n2 c2],.pointer (some ⟨bq_num,0,none⟩)].toArray w (BB fun rv w'=>rv=.bool ((f.num==num))∧Ext w w'):=by
 refine goT func127 ?_
 obtain ⟨rfl,ab,h1⟩:=h1.tp
 obtain ⟨rfl,ac,h2⟩:=h2.tp
 refine .s<|.g<|.np 50 [vI f.num,.slice a1 f.part.ids.length c1,.slice a2 f.part.blocks.length c2] fun ae af E C J W=>?_
 replace hb_num:=(se [] C).g1 hb_num
 have aa:=C
 exact .r 1<|.d<|.s<|.g<|.r 1<|.lb J<|.lb hb_num<|.r 2<|.d<|.rt func127 results127 (.bool (f.num==num)) ⟨(AG AF),aa⟩
theorem HR (s:List Fil) (num:Int) (h1:RepS w F a1 n1 c1 s){bq_num:Nat}(hb_num:Box w bq_num 3 [.int .i64 num])  : Calls Tryz.prog 126 [.slice a1 n1 c1,.func (.func 127) #[] #[.pointer (some ⟨bq_num,0,none⟩)]].toArray w (BB fun rv w'=>rv=.int .i64 (C1 num 0 s)∧Ext w w'):=by
 refine goT func126 ?_
 obtain ⟨rfl,ao,h1⟩:=h1.tp
 refine .s<|.g<|.r 1<|.d<|.s<|.s<|.g<|.r 3<|.d<|.b 0<|T.loop (X:=Nat) 0 (fun k=>[(0,.slice a1 s.length c1),(1,.func (.func 127) #[] #[.pointer (some ⟨bq_num,0,none⟩)]),(7,vI (s.length:Int)),(8,vI (k:Int))]) (fun k J=>Chg (ins []) w J∧(k≤s.length)∧(C1 num k (s.drop k)=C1 num 0 s)) (fun k=>s.length - k) AA ⟨AA,AA,AA,AA,trivial⟩ ⟨Chg.refl _ _,AD,AD⟩ ?_
 rintro k ay J ⟨C,aq,ar⟩ W
 have ab:Mv [] [] w J:=Mv.inl C all_nil all_nil
 replace ⟨h1,hb_num⟩:=(sp ab C).g2 h1 hb_num
 have E:Chg nil w J:=Chg.Cr (Chg.refl nil w) C all_nil
 refine .s<|.g<|.bp ((k:Int)< (s.length:Int)) (fun ah=>?_) (fun ah=>.d<|.s<|.cf<|.x 0 rfl<|.s<|.g<|.r 1<|.d<|.rt func126 results126 (vI (-1)) ⟨(congrArg (Value.int .i64) (by grind [C1,Ab])),E⟩)
 refine .d<|.s<|.ct<|.sk<|.s<|.b 1<|.s<|.g<|.r 2<|.d<|.s<|.g<|.r 3 ?_
 have ai:k< s.length:=AB
 refine .ix k 3 h1 ai ?_
 obtain ⟨ae,aa⟩:∃ y,s[k]? = some y:=⟨_,AU AB⟩
 have au:=Ai aa
 obtain ⟨_,⟨az,aA,aB,aC,aD,aE,rfl,af,ag⟩,aj⟩:=h1.elem k ae aa
 have ak:=af.len
 subst ak
 have al:=ag.len
 subst al
 refine .lg 0 aj<|.cl (Gu ae num af.ta ag.ta hb_num (w:=J) (F:=all)) ?_
 rintro aF aG ⟨rfl,ac⟩
 replace ⟨hb_num,E,C⟩:=(se [] ac).g3 hb_num E C
 cases ax:(ae.num==num)
 ·exact .d<|.cf<|.sk<|.ib 1<|.g<|.it ((k:Int)+1)<|.r 1<|.d<|W (k+1) _ _ ⟨AA,AA,AA,AA,trivial⟩ ⟨C,AB,(by grind [C1])⟩ AB
 exact .d<|.ct<|.s<|.g<|.r 2<|.d<|.rt func126 results126 (vI (k:Int)) ⟨(congrArg (Value.int .i64) (by grind [C1,Ab])),E⟩
theorem Cn (d:Dsk) (num:Int) (h1:RepS w F a1 n1 c1 d.files) (h2:RepS w F a2 n2 c2 d.list) (h3:RepS w F a3 n3 c3 d.names)  : Calls Tryz.prog 83 [.agg #[.slice a1 n1 c1,.slice a2 n2 c2,.slice a3 n3 c3,.int .i64 d.next],.int .i64 num].toArray w (BB fun rv w'=>rv=.int .i64 (Av d num)∧Ext w w'):=by
 refine goT func83 ?_
 obtain ⟨rfl,aj,h1⟩:=h1.tp
 obtain ⟨rfl,ak,h2⟩:=h2.tp
 obtain ⟨rfl,al,h3⟩:=h3.tp
 refine .s<|.g<|.np 36 [.slice a1 d.files.length c1,.slice a2 d.list.length c2,.slice a3 d.names.length c3,vI d.next] fun ah am W E J ae=>?_
 replace h1:=(sn [] E W).g1 h1
 have C:=E
 refine .np 3 [vI num] fun ao ai aa ab af ag=>?_
 replace ⟨h1,J,C⟩:=(sn [ah] ab aa).g3 h1 J C
 refine .r 1<|.d<|.s<|.g<|.r 1<|.lb J<|.r 1<|.cl (HR d.files num h1.ta af (w:=ai) (F:=all)) ?_
 rintro aq ar ⟨rfl,ac⟩
 replace C:=(se [] ac).g1 C
 exact .r 1<|.d<|.rt func83 results83 (vI (C1 num 0 d.files)) ⟨(congrArg (Value.int .i64) AF),C⟩
theorem CY (s:List Int) (v:Int) (h1:RepS w F a1 n1 c1 s)  : Calls Tryz.prog 84 [.slice a1 n1 c1,.int .i64 v].toArray w (BB fun rv w'=>rv=.bool (s.contains v)∧Ext w w'):=by
 refine goT func84 ?_
 obtain ⟨rfl,J,h1⟩:=h1.tp
 refine .s<|.g<|.r 1<|.d<|.s<|.g<|.r 2<|.cl (Dg s v h1.ta (w:=w) (F:=all)) ?_
 rintro W aa ⟨rfl,C⟩
 have E:=C
 exact .r 2<|.d<|.rt func84 results84 (.bool (decide (Db v 0 s≥0))) ⟨(AG (by exact (P9 v s 0).symm)),E⟩
theorem D1 (d:Dsk) (h1:RepS w F a1 n1 c1 d.files) (h2:RepS w F a2 n2 c2 d.list) (h3:RepS w F a3 n3 c3 d.names) (p0:DD d) (p1:∀ n∈d.list,0≤Av d n):Calls Tryz.prog 46 [.agg #[.slice a1 n1 c1,.slice a2 n2 c2,.slice a3 n3 c3,.int .i64 d.next]].toArray w (BB fun rv w'=>(∃ (y:Sto),VS (ge w.heap.size) w' (y:Sto) rv∧(Dm d y))∧Ext w w'):=by
 refine goT func46 ?_
 obtain ⟨rfl,dH,h1⟩:=h1.tp
 obtain ⟨rfl,dI,h2⟩:=h2.tp
 obtain ⟨rfl,dJ,h3⟩:=h3.tp
 refine .s<|.g<|.np 36 [.slice a1 d.files.length c1,.slice a2 d.list.length c2,.slice a3 d.names.length c3,vI d.next] fun ag ed bC aV ab co=>?_
 replace ⟨h1,h2,h3⟩:=(sn [] aV bC).g3 h1 h2 h3
 have C:=aV
 refine .np 32 [AH,AH,AH,AH] fun ah cp aW bD W cq=>?_
 have dK:=C.cn aW
 replace ⟨h1,h2,h3,ab,C⟩:=(sn [ag] bD aW).g5 h1 h2 h3 ab C
 refine .d<|.s<|.g<|.r 1<|.lb ab<|.cl (FZ d.names h3.ta p0.g.len p0.g.l5 p0.g.bl (w:=cp) (F:=all)) ?_
 rintro ee ef ⟨⟨aD,⟨_,rfl,⟨cr,eg,cu,cw,eh,cx,rfl,aw,ax⟩⟩,dL⟩,bE⟩
 have aX:=al2 W.lt ab.lt
 have bF:Gb w.heap.size cp.heap.size:=C.size
 replace ⟨h1,h2,h3,ab,W,C⟩:=(se [ah,ag] bE).g6 h1 h2 h3 ab W C
 have aw:=aw.fr aX bF
 have dM:=aw.max
 have ax:=ax.fr aX bF
 have dN:=ax.max
 have cy:=aw.len
 subst cy
 have cz:=ax.len
 subst cz
 refine .ns 0 48 [] fun ar cZ aE bG cA cB=>?_
 have cC:=AX aE ab.lt
 have cD:=AX aE W.lt
 have cE:=Ae aE C.size
 have cF:=C.cn aE
 replace ⟨h1,h2,h3,ab,W,aw,ax,C⟩:=(sn [ah,ag] bG aE).g8 h1 h2 h3 ab W aw ax C
 have au:Own (α:=Prt) cZ ar 48 (nin (ge w.heap.size) [ar,ah,ag]) 0 0 []:=Own.Aj cA
 refine .ns 0 85 [] fun az c7 aA bH cG cH=>?_
 have cI:=AX aA ab.lt
 have cJ:=AX aA W.lt
 have cK:=AX aA au.lt
 have cL:=Ae aA C.size
 have dO:=C.cn aA
 replace ⟨h1,h2,h3,ab,W,aw,ax,au,C⟩:=(sn [ar,ah,ag] bH aA).g9 h1 h2 h3 ab W aw ax au C
 have aF:Own (α:=Smp) c7 az 85 (nin (ge w.heap.size) [az,ar,ah,ag]) 0 0 []:=Own.Aj cG
 refine .r 1<|.np 32 [AH,AH,AH,AH] fun ai ej aB bI cM cN=>?_
 have dP:=AX aB ab.lt
 have dQ:=AX aB W.lt
 have cO:=AX aB au.lt
 have cP:=AX aB aF.lt
 have dR:=C.cn aB
 replace ⟨h1,h2,h3,ab,W,aw,ax,au,aF,C⟩:=(sn [az,ar,ah,ag] bI aB).g10 h1 h2 h3 ab W aw ax au aF C
 refine .sc [.slice cr aD.names.length cu,.slice cw aD.AY.length cx,vS ar 0 0,vS az 0 0] cM fun aS bJ aY cQ=>?_
 replace ⟨h1,h2,h3,ab,W,aw,ax,au,aF,C⟩:=(so [ai,az,ar,ah,ag] bJ).g10 h1 h2 h3 ab W aw ax au aF C
 refine .d<|.s<|.s<|.g<|.r 1<|.lb ab<|.r 2<|.d<|.b 0<|T.loop (X:=Nat × (List (List Tag)) × (Option Addr) × Nat × Nat × (List Pst) × (Option Addr) × Nat × Nat × (List Prt) × Nat × Nat × Nat × (List Smp) × Nat × Nat × Nat) (0,(aD.names:List (List Tag)),cr,aD.names.length,cu,(aD.AY:List Pst),cw,aD.AY.length,cx,([]:List Prt),ar,0,0,([]:List Smp),az,0,0) (fun (k,aJ,a_s_0,n_s_0,c_s_0,aL,a_s_1,n_s_1,c_s_1,aK,r_s_2,n_s_2,c_s_2,aM,r_s_3,n_s_3,c_s_3)=>[(1,.pointer (some ⟨ag,0,none⟩)),(2,.pointer (some ⟨ah,0,none⟩)),(3,.pointer (some ⟨ai,0,none⟩)),(13,.slice a2 d.list.length c2),(14,vI (d.list.length:Int)),(15,vI (k:Int))]) (fun (k,aJ,a_s_0,n_s_0,c_s_0,aL,a_s_1,n_s_1,c_s_1,aK,r_s_2,n_s_2,c_s_2,aM,r_s_3,n_s_3,c_s_3) aj=>Chg (ins [ar,az,ai]) aS aj∧Own aj r_s_2 48 (nin (ge w.heap.size) [ai,r_s_3,r_s_2,ah,ag]) n_s_2 c_s_2 aK∧OrB r_s_2 ar aS.heap.size∧Own aj r_s_3 85 (nin (ge w.heap.size) [ai,r_s_3,r_s_2,ah,ag]) n_s_3 c_s_3 aM∧OrB r_s_3 az aS.heap.size∧Nb r_s_3 r_s_2∧RepS aj (nin (ge w.heap.size) [ai,r_s_3,r_s_2,ah,ag]) a_s_0 n_s_0 c_s_0 aJ∧RepS aj (nin (ge w.heap.size) [ai,r_s_3,r_s_2,ah,ag]) a_s_1 n_s_1 c_s_1 aL∧Box aj ai 32 [.slice a_s_0 n_s_0 c_s_0,.slice a_s_1 n_s_1 c_s_1,vS r_s_2 n_s_2 c_s_2,vS r_s_3 n_s_3 c_s_3]∧(k≤d.list.length)∧(aK.length≤k)∧(aK++(d.list.drop k).map (BH d)=d.list.map (BH d))∧(aM=[])∧(aJ=d.names)∧((NmI d.names→NsD d.names→(⟨aJ,aL⟩:Idx)=idxOf d.names))) (fun (k,aJ,a_s_0,n_s_0,c_s_0,aL,a_s_1,n_s_1,c_s_1,aK,r_s_2,n_s_2,c_s_2,aM,r_s_3,n_s_3,c_s_3)=>d.list.length - k) AA ⟨AA,AA,AA,AA,AA,AA,trivial⟩ ⟨Chg.refl _ _,au,BU,aF,BU,cK,aw,ax,aY,AD,AD,AF,AF,(by have q1:aD.names=d.names∧(NmI d.names→NsD d.names→aD=idxOf d.names):=‹_›; exact q1.1),(by have q1:aD.names=d.names∧(NmI d.names→NsD d.names→aD=idxOf d.names):=‹_›; exact q1.2)⟩ ?_
 rintro ⟨k,aJ,a_s_0,n_s_0,c_s_0,aL,a_s_1,n_s_1,c_s_1,aK,r_s_2,n_s_2,c_s_2,aM,r_s_3,n_s_3,c_s_3⟩ dS aj ⟨ae,af,ak,aa,ay,bN,E,J,ac,c9,da,db,de,df,dg⟩ aT
 have aZ:=Ay ak cC ab.lt
 have dh:=Ay ak cD W.lt
 have ba:=Ay ak (Nb.symm cO) aY.lt
 have bO:=Bz ak cE C.size
 have dj:=BA ak cF C.size
 have bc:=Ay ay cI ab.lt
 have dm:=Ay ay cJ W.lt
 have bP:=Ay ay (Nb.symm cP) aY.lt
 have bQ:=Bz ay cL C.size
 have bR:Cov (ins [ar,az,ai]) aS ar:=⟨.inl AI⟩
 have dp:Cov (ins [ar,az,ai]) aS ai:=⟨.inl AK⟩
 have dq:=BA ak bR (Nat.le_refl _)
 have bd:Mv [ai,az,ar,ah,ag] [ai,r_s_3,r_s_2,ah,ag] aS aj:=Mv.inl ae (all_cons AK (all_cons AJ (all_cons AI all_nil))) (all_cons (.inl AI) (all_cons (Bb ay AJ) (all_cons (Bb ak AK) (all_cons (.inl AL) (all_cons (.inl AM) all_nil)))))
 replace ⟨h1,h2,h3,ab,W,C⟩:=(sp bd ae).g6 h1 h2 h3 ab W C
 have dr:=af.len; have dt:=af.max
 refine .s<|.g<|.bp ((k:Int)< (d.list.length:Int)) (fun bS=>?_) (fun bS=>?_)
 ·refine .d<|.s<|.ct<|.sk<|.s<|.b 1<|.s<|.g ?_
  have bg:k< d.list.length:=AB
  refine RG.idx k (len:=d.list.length) (i:=(k:Int)) (sz:=1) AA AB bg (h2.addr (Nat.zero_lt_of_lt bg)) ?_
  obtain ⟨aC,aN⟩:∃ y,d.list[k]? = some y:=⟨_,AU AB⟩
  have dA:=Ai aN; have cR:=AV aN
  obtain ⟨_,rfl,bT⟩:=h2.elem k aC aN
  refine .lh 0 bT<|.r 1<|.d ?_
  replace h1:=h1.BO
  replace h2:=h2.BO
  replace h3:=h3.BO
  replace E:=E.BO
  replace J:=J.BO
  have bh:Gb (ag+1) aj.heap.size:=ab.lt
  have bU:Gb (ai+1) aj.heap.size:=ac.lt
  refine .gd (mtb [r_s_2,r_s_3] aj.heap.size) 12 fun dT bi=>?_
  replace ⟨h1,h2,h3,ab,W,af,aa,ac,E,J,C,ae⟩:=(se [ai,r_s_3,r_s_2,ah,ag] bi).g12 h1 h2 h3 ab W af aa ac E J C ae
  refine .r [0]<|.lb 1 ac (BL (all_cons (Nb.symm ba) (all_cons (Nb.symm bP) all_nil)) bU)<|.r [2]<|.lb 3 ab (BL (all_cons (Nb.symm aZ) (all_cons (Nb.symm bc) all_nil)) bh)<|.ln 4 ab (BL (all_cons (Nb.symm aZ) (all_cons (Nb.symm bc) all_nil)) bh)<|.r [5]<|GA.Dt (i:=6) AA (fun cS aO=>Cn d aC (h1.IQ aO (all_cons AK (all_cons AJ all_nil))) (h2.IQ aO (all_cons AK (all_cons AJ all_nil))) (h3.IQ aO (all_cons AK (all_cons AJ all_nil))) (w:=cS) (F:=all)) ?_
  have bj:(Av d aC).toNat< d.files.length:=(by exact (GM (p1 _ ‹_›)).1)
  refine GA.idx (i:=7) ((Av d aC).toNat) (len:=d.files.length) (z:=Av d aC) (sz:=3) AA (by exact (GM (p1 _ ‹_›)).2) bj (h1.addr (Nat.zero_lt_of_lt bj))<|.r [8] ?_
  obtain ⟨aG,aH⟩:∃ y,d.files[(Av d aC).toNat]? = some y:=⟨_,AU AB⟩
  have cT:=AV aH
  obtain ⟨_,⟨dU,dV,dW,dX,dY,dZ,rfl,bk,bm⟩,bV⟩:=h1.elem ((Av d aC).toNat) aG aH
  have bW:=bk.len
  subst bW
  have bX:=bm.len
  subst bX
  refine .lg 9 1 bV (h1.nS (Dd aH) (all_cons AK (all_cons AJ all_nil)))<|.go 10<|.cl (fun bn aI=>C9 aG.part (bk.ta.ext aI) (bm.ta.ext aI) (p0.file _ ‹_›).sz (w:=bn) (F:=all)) ?_
  intro bn aI
  replace ⟨ab,W,af,aa,ac,E,J,C,ae⟩:=(se [ai,r_s_3,r_s_2,ah,ag] aI).g9 ab W af aa ac E J C ae
  rintro d0 d3 ⟨⟨_,rfl,⟨cU,d4,cV,cW,d5,cX,rfl,al,am⟩⟩,aP⟩
  have aQ:=al5 ac.lt aa.lt af.lt W.lt ab.lt
  have bo:Gb w.heap.size bn.heap.size:=C.size
  have hkeep_:=aP
  replace ⟨ab,W,af,aa,ac,E,J,C,ae⟩:=(se [ai,r_s_3,r_s_2,ah,ag] aP).g9 ab W af aa ac E J C ae
  refine ⟨Ext.chg hkeep_,?_⟩
  have al:=al.fr aQ bo
  have am:=am.fr aQ bo
  have bY:=al.len
  subst bY
  have bZ:=am.len
  subst bZ
  refine .go 11<|.ns 1 48 [.slice cU aG.part.ids.length cV,.slice cW aG.part.blocks.length cX] fun d6 bq=>?_
  replace ⟨ab,W,af,aa,ac,E,J,al,am,C,ae⟩:=(se [ai,r_s_3,r_s_2,ah,ag] bq).g11 ab W af aa ac E J al am C ae
  intro bK d7 ao br aR b0
  have b6:=AX ao ab.lt
  have b7:=AX ao W.lt
  have bt:=AX ao af.lt
  have b8:=AX ao aa.lt
  have b9:=AX ao ac.lt
  have cd:=Ae ao C.size
  replace ⟨W,af,aa,ac,E,J,al,am,C,ae⟩:=(se [ai,r_s_3,r_s_2,ah,ag] br).g10 W af aa ac E J al am C ae
  refine .d fun d8 bu=>?_
  replace ⟨W,af,aa,ac,E,J,al,am,aR,C,ae⟩:=(se [ai,r_s_3,r_s_2,ah,ag] bu).g11 W af aa ac E J al am aR C ae
  replace E:=E.Aa
  replace J:=J.Aa
  have aU:nin (ge w.heap.size) [ai,r_s_3,r_s_2,ah,ag] bK∧bK≠r_s_2:=BR cd (all_cons b9 (all_cons b8 (all_cons bt (all_cons b7 (all_cons b6 all_nil))))) bt
  refine RG.Ax (T:=29) (ty:=29) (y:=aG.part) af aR AA AA ⟨_,_,_,_,_,_,rfl,al.oi,am.oi⟩ aU (by have:=p0.nl; omega) fun bv bL d9 aq av bw=>?_
  have ce:=Ag av (Nb.symm bN) aa.lt
  have dE:=Ag av ba ac.lt
  have cg:=CB av ak ae.size
  replace ⟨W,aa,ac,E,J,C,ae⟩:=(sa [ai,r_s_3,r_s_2,ah,ag] bw av).g7 W aa ac E J C ae
  replace aq:=aq.rn r_s_2
  refine .r 1<|.ss 2 (vS bv (n_s_2+1) bL) ac fun ec bz ci cj=>?_
  replace ⟨W,aq,aa,E,J,C,ae⟩:=(so [ai,r_s_3,bv,ah,ag] bz).g7 W aq aa E J C ae
  exact .d<|.ib 1<|.g<|RG.int ((k:Int)+1) AA AB<|.r 1<|.d<|aT (k+1,aJ,a_s_0,n_s_0,c_s_0,aL,a_s_1,n_s_1,c_s_1,(aK++[aG.part]),bv,n_s_2+1,bL,aM,r_s_3,n_s_3,c_s_3) _ _ ⟨AA,AA,AA,AA,AA,AA,trivial⟩ ⟨ae,aq,cg,aa,ay,(Nb.symm ce),E,J,ci,AB,(by simp; omega),(by exact On ‹_› ‹_› ‹_›),‹_›,‹_›,‹_›⟩ (by (simp only []; omega))
 refine .d<|.s<|.cf<|.x 0 rfl<|.s<|.g<|.ln ac<|.sc [.slice a_s_0 n_s_0 c_s_0,.slice a_s_1 n_s_1 c_s_1,vS r_s_2 n_s_2 c_s_2,vS r_s_3 n_s_3 c_s_3] W fun bM bA ck cm=>?_
 replace ⟨af,aa,E,J,C⟩:=(so [ai,r_s_3,r_s_2,ah,ag] bA).g5 af aa E J C
 refine .d ?_
 have bB:=af.sl bO
 replace ⟨aa,E,J⟩:=(sd bM [ai,r_s_3,r_s_2,ah,ag] r_s_2).g3 aa E J
 have cY:=aa.sl bQ
 replace ⟨bB,E,J⟩:=(sd bM [ai,r_s_3,ah,ag] r_s_3).g3 bB E J
 exact .rb func46 results46 ck ⟨⟨((⟨(⟨aJ,aL⟩:Idx),aK,aM⟩:Sto):Sto),⟨_,rfl,⟨_,_,_,_,_,_,_,_,_,_,_,_,rfl,E.w1,J.w1,bB.w1,cY.w1⟩⟩,(by exact Dm.mk ‹_› (QC ‹_› AB) ‹_› ‹_›)⟩,C⟩
theorem Cv (d:Dsk) (h1:RepS w F a1 n1 c1 d.files) (h2:RepS w F a2 n2 c2 d.list) (h3:RepS w F a3 n3 c3 d.names) (p0:DD d):Calls Tryz.prog 45 [.agg #[.slice a1 n1 c1,.slice a2 n2 c2,.slice a3 n3 c3,.int .i64 d.next]].toArray w (BB fun rv w'=>rv=.bool (BI d)∧Ext w w'):=by
 refine goT func45 ?_
 obtain ⟨rfl,cq,h1⟩:=h1.tp
 obtain ⟨rfl,cr,h2⟩:=h2.tp
 obtain ⟨rfl,cu,h3⟩:=h3.tp
 refine .s<|.g<|.np 36 [.slice a1 d.files.length c1,.slice a2 d.list.length c2,.slice a3 d.names.length c3,vI d.next] fun aa bS aM ax E br=>?_
 replace ⟨h1,h2,h3⟩:=(sn [] ax aM).g3 h1 h2 h3
 have C:=ax
 refine .r 1<|.d<|.s<|.s<|.g<|.r 1<|.lb E<|.cl (CM d.next 1 999 (w:=bS) (F:=all)) ?_
 rintro dm bt ⟨rfl,aN⟩
 replace ⟨h1,h2,h3,E,C⟩:=(se [aa] aN).g5 h1 h2 h3 E C
 cases aO:(inR d.next 1 999)
 ·exact .r 13<|.d<|.ct<|.s<|.g<|.r 1<|.d<|.rt func45 results45 (.bool false) ⟨(AG (by symm; exact S4 (.inl ‹_›))),C⟩
 have cx:=CF aO
 refine .r 3<|.lb E<|.r 1<|.bp ((d.files.length:Int) > 20) (fun bu=>.r 7<|.d<|.ct<|.s<|.g<|.r 1<|.d<|.rt func45 results45 (.bool false) ⟨(AG (by symm; exact S4 (.inr (.inl ‹_›)))),C⟩) fun bu=>.r 3<|.lb E<|.r 1<|.bp ((d.list.length:Int) > 6) (fun bv=>.r 1<|.d<|.ct<|.s<|.g<|.r 1<|.d<|.rt func45 results45 (.bool false) ⟨(AG (by symm; exact S4 (.inr (.inr (.inl ‹_›))))),C⟩) fun bv=>.r 1<|.d<|.cf<|.sk<|.s<|.s<|.g<|.r 1<|.lb E<|.r 2<|.d<|.b 0<|T.loop (X:=Nat) 0 (fun k=>[(1,.pointer (some ⟨aa,0,none⟩)),(24,.slice a1 d.files.length c1),(25,vI (d.files.length:Int)),(26,vI (k:Int))]) (fun k ay=>Chg (ins []) bt ay∧(k≤d.files.length)∧(DJ d.next (Ii d.files k) (d.files.drop k)=DJ d.next none d.files)) (fun k=>d.files.length - k) AA ⟨AA,AA,AA,AA,trivial⟩ ⟨Chg.refl _ _,AD,AF⟩ ?_
 rintro k dp ay ⟨J,cy,cz⟩ ak
 have aP:Mv [aa] [aa] bt ay:=Mv.inl J all_nil (all_cons (.inl AI) all_nil)
 replace ⟨h1,h2,h3,E,C⟩:=(sp aP J).g5 h1 h2 h3 E C
 refine .s<|.g<|.bp ((k:Int)< (d.files.length:Int)) (fun bw=>?_) (fun bw=>?_)
 ·refine .d<|.s<|.ct<|.sk<|.s<|.b 1<|.s<|.g<|.r 1 ?_
  have bz:k< d.files.length:=AB
  refine .ix k 3 h1 bz ?_
  obtain ⟨af,az⟩:∃ y,d.files[k]? = some y:=⟨_,AU AB⟩
  have cA:=Ai az
  obtain ⟨_,⟨bT,dq,bU,bV,dr,bW,rfl,ab,ac⟩,bA⟩:=h1.elem k af az
  have bB:=ab.len
  subst bB
  have bC:=ac.len
  subst bC
  refine .lg 0 bA<|.np 50 [vI 0,AH,AH] fun ai dt al aQ bD bE=>?_
  have cD:=AX al E.lt
  have cE:=C.cn al
  have cF:=J.cn al
  replace ⟨h1,h2,h3,E,ab,ac,C,J⟩:=(sn [aa] aQ al).g8 h1 h2 h3 E ab ac C J
  refine .r 1<|.sc [vI af.num,.slice bT af.part.ids.length bU,.slice bV af.part.blocks.length bW] bD fun du aR W bF=>?_
  replace ⟨h1,h2,h3,E,ab,ac,C,J⟩:=(so [ai,aa] aR).g8 h1 h2 h3 E ab ac C J
  refine .d<|.s<|.gd nil 20 fun dv aS=>?_
  replace ⟨h1,h2,h3,E,ab,ac,W,C,J⟩:=(se [ai,aa] aS).g9 h1 h2 h3 E ab ac W C J
  refine .r [0]<|.lb 1 W id<|.r [2]<|.lb 3 E id<|GA.int (i:=4) (d.next - 1) AA (by have q1:=p0.next; omega)<|GA.Dt (i:=5) AA (fun bX cG=>CM af.num 1 (d.next - 1) (w:=bX) (F:=all)) ?_
  cases aT:(inR af.num 1 (d.next - 1))
  ·refine .r [6,7]<|GA.skip AA fun dw aU=>?_
   replace ⟨h1,h2,h3,E,ab,ac,W,C,J⟩:=(se [ai,aa] aU).g9 h1 h2 h3 E ab ac W C J
   exact .r 9<|.d<|.ct<|.s<|.g<|.r 1<|.d<|.rt func45 results45 (.bool false) ⟨(AG (by symm; exact Rk (LM ‹_› ‹_› (.inl ‹_›)))),C⟩
  refine .r [6,7,8]<|GA.Ey (i:=9) ((k:Int) > 0) AA (fun bG=>?_) (fun bG=>?_)
  ·refine .r [10,11]<|.lb 12 E id<|.r [13]<|GA.int (i:=14) ((k:Int) - 1) AA (by have q1:=p0.next; omega) ?_
   have aV:k - 1< d.files.length:=AB
   refine GA.idx (i:=15) (k - 1) (len:=d.files.length) (z:=(k:Int) - 1) (sz:=3) AA AB aV (h1.addr (Nat.zero_lt_of_lt aV))<|.r [16] ?_
   obtain ⟨bH,aA⟩:∃ y,d.files[k - 1]? = some y:=⟨_,AU AB⟩
   obtain ⟨_,⟨dx,dy,dz,cK,cL,cM,rfl,bI,aW⟩,bJ⟩:=h1.elem (k - 1) bH aA
   have aZ:=bI.len
   subst aZ
   have ba:=aW.len
   subst ba
   refine .lh 17 0 bJ id<|.r [18]<|.lb 19 W id<|.d fun bK aB=>?_
   replace ⟨h1,h2,h3,E,ab,ac,W,C,J⟩:=(se [ai,aa] aB).g9 h1 h2 h3 E ab ac W C J
   refine .bp (bH.num≥af.num) (fun bc=>.r 8<|.d<|.ct<|.s<|.g<|.r 1<|.d<|.rt func45 results45 (.bool false) ⟨(AG (by symm; exact Rk (LM ‹_› ‹_› (.inr (.inl ⟨by omega,_,by assumption,by assumption⟩))))),C⟩) fun bc=>.r 4<|.ln W<|.cl (Cf af.part ab.ta ac.ta (w:=bK) (F:=all)) ?_
   rintro cN aX ⟨rfl,aC⟩
   replace ⟨h1,h2,h3,E,ab,ac,W,C,J⟩:=(se [ai,aa] aC).g9 h1 h2 h3 E ab ac W C J
   cases b0:(Az af.part)
   ·exact .r 2<|.d<|.ct<|.s<|.g<|.r 1<|.d<|.rt func45 results45 (.bool false) ⟨(AG (by symm; exact Rk (LM ‹_› ‹_› (.inr (.inr ‹_›))))),C⟩
   refine .r 2<|.d<|.cf<|.sk<|.ib 1<|.g<|RG.int ((k:Int)+1) AA (by have q1:=p0.next; omega)<|.r 1<|.d ?_
   have bd:Mv [ai,aa] [aa] aX aX:=Mv.less (all_cons AJ all_nil)
   replace ⟨h1,h2,h3,ab,ac⟩:=(sp bd (Chg.refl nil _)).g5 h1 h2 h3 ab ac
   exact ak (k+1) _ _ ⟨AA,AA,AA,AA,trivial⟩ ⟨J,AB,(by exact MD ‹_› ‹_› ‹_› ‹_› (.inr ⟨_,by assumption,by assumption⟩) ‹_›)⟩ AB
  refine .r [10]<|GA.skip AA fun bL aD=>?_
  replace ⟨h1,h2,h3,E,ab,ac,W,C,J⟩:=(se [ai,aa] aD).g9 h1 h2 h3 E ab ac W C J
  refine .r 5<|.ln W<|.cl (Cf af.part ab.ta ac.ta (w:=bL) (F:=all)) ?_
  rintro cO aY ⟨rfl,aE⟩
  replace ⟨h1,h2,h3,E,C,J⟩:=(se [ai,aa] aE).g6 h1 h2 h3 E C J
  cases b6:(Az af.part)
  ·exact .r 2<|.d<|.ct<|.s<|.g<|.r 1<|.d<|.rt func45 results45 (.bool false) ⟨(AG (by symm; exact Rk (LM ‹_› ‹_› (.inr (.inr ‹_›))))),C⟩
  refine .r 2<|.d<|.cf<|.sk<|.ib 1<|.g<|RG.int ((k:Int)+1) AA (by have q1:=p0.next; omega)<|.r 1<|.d ?_
  have bg:Mv [ai,aa] [aa] aY aY:=Mv.less (all_cons AJ all_nil)
  replace ⟨h1,h2,h3⟩:=(sp bg (Chg.refl nil _)).g3 h1 h2 h3
  exact ak (k+1) _ _ ⟨AA,AA,AA,AA,trivial⟩ ⟨J,AB,(by exact MD ‹_› ‹_› ‹_› ‹_› (.inl AB) ‹_›)⟩ AB
 refine .d<|.s<|.cf<|.x 0 rfl<|.s<|.s<|.g<|.r 1<|.lb E<|.r 2<|.d<|.b 2<|T.loop (X:=Nat) 0 (fun k=>[(1,.pointer (some ⟨aa,0,none⟩)),(62,.slice a2 d.list.length c2),(63,vI (d.list.length:Int)),(64,vI (k:Int))]) (fun k ah=>Chg (ins []) ay ah∧(k≤d.list.length)∧(DJ d.next none d.files=true)∧(QA d k)) (fun k=>d.list.length - k) AA ⟨AA,AA,AA,AA,trivial⟩ ⟨Chg.refl _ _,AD,(by exact Rj ‹_› AB),(by exact S0 _)⟩ ?_
 rintro k cP ah ⟨ae,b7,b8,b9⟩ aw
 have aF:Mv [aa] [aa] ay ah:=Mv.inl ae all_nil (all_cons (.inl AI) all_nil)
 replace ⟨h1,h2,h3,E,C⟩:=(sp aF ae).g5 h1 h2 h3 E C
 refine .s<|.g<|.bp ((k:Int)< (d.list.length:Int)) (fun bh=>?_) (fun bh=>?_)
 ·refine .d<|.s<|.ct<|.sk<|.s<|.b 3<|.s<|.g<|.r 1 ?_
  have bi:k< d.list.length:=AB
  refine .ix k 1 h2 bi ?_
  obtain ⟨am,av⟩:∃ y,d.list[k]? = some y:=⟨_,AU AB⟩
  obtain ⟨_,rfl,bj⟩:=h2.elem k am av
  refine .lh 0 bj<|.r 2<|.d<|.s<|.g<|.ln E<|.r 1<|.cl (Cn d am h1.ta h2.ta h3.ta (w:=ah) (F:=all)) ?_
  rintro cQ bN ⟨rfl,aG⟩
  replace ⟨h1,h2,h3,E,C,ae⟩:=(se [aa] aG).g6 h1 h2 h3 E C ae
  refine .bp (Av d am< 0) (fun bk=>.r 8<|.d<|.ct<|.s<|.g<|.r 1<|.d<|.rt func45 results45 (.bool false) ⟨(AG (by symm; exact Tx (S1 ‹_› ‹_›))),C⟩) fun bk=>.r 2<|.lb E<|.r 1<|RG.sub (t:=34) (lo:=none) (hi:=some (vI (k:Int))) h2 0 k AA AA (.inl ⟨rfl,rfl⟩) (.inr ⟨_,_,rfl,by omega⟩) AB AB fun cR cS aH=>?_
  refine .r 1<|.cl (CY ((d.list.take k).drop 0) am aH.ta (w:=bN) (F:=all)) ?_
  rintro cT cU ⟨rfl,aI⟩
  replace ⟨h1,h2,h3,E,C,ae⟩:=(se [aa] aI).g6 h1 h2 h3 E C ae
  cases ci:((d.list.take k).drop 0).contains am
  ·exact .r 1<|.d<|.cf<|.sk<|.ib 3<|.g<|RG.int ((k:Int)+1) AA (by have q1:=p0.next; omega)<|.r 1<|.d<|aw (k+1) _ _ ⟨AA,AA,AA,AA,trivial⟩ ⟨ae,AB,‹_›,(by exact Om ‹_› ‹_› ‹_› (QB ‹_›) (Nat.le_refl _))⟩ AB
  exact .r 1<|.d<|.ct<|.s<|.g<|.r 1<|.d<|.rt func45 results45 (.bool false) ⟨(AG (by symm; exact Tx (S3 ‹_› ‹_›))),C⟩
 refine .d<|.s<|.cf<|.x 2 rfl<|.s<|.g<|.ln E<|.cl (D1 d h1.ta h2.ta h3.ta p0 (EC (ME ‹_› AB)) (w:=ah) (F:=all)) ?_
 rintro cV bO ⟨⟨aJ,⟨_,rfl,⟨cW,cX,cY,cZ,c7,c8,c9,da,db,de,df,dg,rfl,ao,aq,ar,au⟩⟩,cj⟩,aK⟩
 have ag:=al1 E.lt
 have aj:Gb w.heap.size ah.heap.size:=C.size
 replace C:=(se [] aK).g1 C
 have ao:=ao.fr ag aj
 have ck:=ao.max
 have aq:=aq.fr ag aj
 have cm:=aq.max
 have ar:=ar.fr ag aj
 have co:=ar.max
 have au:=au.fr ag aj
 have cp:=au.max
 have bm:=ao.len
 subst bm
 have bn:=aq.len
 subst bn
 have bo:=ar.len
 subst bo
 have bq:=au.len
 subst bq
 refine .cl (EF aJ ao.ta aq.ta ar.ta au.ta (Dm.sg (by assumption:Dm d _) p0) (w:=bO) (F:=all)) ?_
 rintro dh dj ⟨rfl,aL⟩
 replace C:=(se [] aL).g1 C
 exact .r 1<|.d<|.rt func45 results45 (.bool (nmB aJ.idx.names&&Al aJ)) ⟨(AG (by exact Dm.dk (by assumption:Dm d _) p0 ‹_› AB AB ‹_› (ME ‹_› AB))),C⟩
theorem Ij (d:Dsk) (h1:RepS w F a1 n1 c1 d.files) (h2:RepS w F a2 n2 c2 d.list) (h3:RepS w F a3 n3 c3 d.names) (p0:DD d):Calls Tryz.prog 26 [.agg #[.slice a1 n1 c1,.slice a2 n2 c2,.slice a3 n3 c3,.int .i64 d.next]].toArray w (BB fun rv w'=>VS (fo F w.heap.size) w' (CP d:Sto) rv∧Ext w w'):=by
 refine goT func26 ?_
 obtain ⟨rfl,aP,h1⟩:=h1.tp
 obtain ⟨rfl,aQ,h2⟩:=h2.tp
 obtain ⟨rfl,aR,h3⟩:=h3.tp
 refine .s<|.g<|.np 36 [.slice a1 d.files.length c1,.slice a2 d.list.length c2,.slice a3 d.names.length c3,vI d.next] fun aj ba ak ah E av=>?_
 replace ⟨h1,h2,h3⟩:=(sn [] ah ak).g3 h1 h2 h3
 have C:=ah
 refine .np 32 [AH,AH,AH,AH] fun au aG af al J aw=>?_
 have aS:=AX af E.lt
 have aT:=C.cn af
 replace ⟨h1,h2,h3,E,C⟩:=(sn [aj] al af).g5 h1 h2 h3 E C
 refine .d<|.s<|.s<|.g<|.ln E<|.cl (Cv d h1.ta h2.ta h3.ta p0 (w:=aG) (F:=all)) ?_
 rintro bc ax ⟨rfl,am⟩
 replace ⟨h1,h2,h3,E,J,C⟩:=(se [au,aj] am).g6 h1 h2 h3 E J C
 cases aU:(BI d)
 ·refine .r 1<|.d<|.ct<|.s<|.g<|.r 1<|.sc [AH,AH,AH,AH] J fun bd ao ay az=>?_
  replace ⟨h1,h2,h3,E,C⟩:=(so [au,aj] ao).g5 h1 h2 h3 E C
  exact .d<|.rb func26 results26 ay ⟨(VS.of (y:=(⟨(⟨([]:List (List Tag)),([]:List Pst)⟩:Idx),([]:List Prt),([]:List Smp)⟩:Sto)) ⟨_,rfl,⟨_,_,_,_,_,_,_,_,_,_,_,_,rfl,(RepS.Aj _ _ none 0 AE),(RepS.Aj _ _ none 0 AE),(RepS.Aj _ _ none 0 AE),(RepS.Aj _ _ none 0 AE)⟩⟩ (by exact (Rl ‹_›).symm)),C⟩
 refine .r 1<|.d<|.cf<|.sk<|.s<|.g<|.ln E<|.cl (D1 d h1.ta h2.ta h3.ta p0 (EC (FD ‹_›).2.2) (w:=ax) (F:=all)) ?_
 rintro bg bh ⟨⟨ai,⟨_,rfl,⟨aH,bi,aI,aJ,bj,aK,aL,bk,aM,aN,bm,aO,rfl,W,aa,ab,ac⟩⟩,aV⟩,aq⟩
 have ae:=al2 J.lt E.lt
 have ag:Gb w.heap.size ax.heap.size:=C.size
 replace ⟨J,C⟩:=(se [] aq).g2 J C
 have W:=W.fr ae ag
 replace W:=W.base (G':=fo F w.heap.size) (fun _ _ h=>.inr h)
 have aW:=W.max
 have aa:=aa.fr ae ag
 replace aa:=aa.base (G':=fo F w.heap.size) (fun _ _ h=>.inr h)
 have aX:=aa.max
 have ab:=ab.fr ae ag
 replace ab:=ab.base (G':=fo F w.heap.size) (fun _ _ h=>.inr h)
 have aY:=ab.max
 have ac:=ac.fr ae ag
 replace ac:=ac.base (G':=fo F w.heap.size) (fun _ _ h=>.inr h)
 have aZ:=ac.max
 have aA:=W.len
 subst aA
 have aB:=aa.len
 subst aB
 have aC:=ab.len
 subst aC
 have aD:=ac.len
 subst aD
 refine .sc [.slice aH ai.idx.names.length aI,.slice aJ ai.idx.AY.length aK,.slice aL ai.parts.length aM,.slice aN ai.mem.length aO] J fun bn ar aE aF=>?_
 replace ⟨W,aa,ab,ac,C⟩:=(so [au,aj] ar).g5 W aa ab ac C
 exact .d<|.rb func26 results26 aE ⟨(VS.of (y:=ai) ⟨_,rfl,⟨_,_,_,_,_,_,_,_,_,_,_,_,rfl,W.w1,aa.w1,ab.w1,ac.w1⟩⟩ (by exact Dm.eq (by assumption:Dm d _) p0 ‹_›)),C⟩
end Go.Proofs.YtggnnidleedpaaaGreat
namespace Go.Proofs.YtggnnidleedpaaaGreat
structure MI (s y:Sto) (i:Nat):Prop where
 sd:SD y
 ok:Al y=true
 idx:y.idx=s.idx
 mem:y.mem=s.mem
 lo:1≤y.parts.length
 hi:y.parts.length≤1∨y.parts.length+i≤6
 rows:∀ id:Int,1≤id→id≤6→y.parts.foldl (CK id) []=s.parts.foldl (CK id) []
theorem MI.step {s y:Sto}{i:Nat}{a:Int}(h:MI s y i) (h1:(Ba y a).2=true):MI s (Ba y a).1 (i+1):=by
 obtain ⟨hk,h2,h3,e⟩:=HQ h.sd h1
 have hl:=Ol h.sd h1
 refine ⟨P8 h.sd h1,(NA h.sd h1).2,by rw [e]; exact h.idx,by rw [e]; exact h.mem,by omega,?_,fun id a1 a2=>?_⟩
 ·have:=h.hi; omega
 ·rw [e,(F4 (StoK.of h.sd hk) AB a1 a2).1]
  exact h.rows id a1 a2
theorem MI.start {s:Sto}{a:Int}(h:SD s) (h1:(Ba s a).2=true):MI s s 0∧MI s (Ba s a).1 0:=by
 obtain ⟨hk,h2,h3,e⟩:=HQ h h1
 have h0:MI s s 0:=⟨h,hk,rfl,rfl,by omega,.inr (by have:=h.np; omega),fun _ _ _=>rfl⟩
 have h4:=h0.step h1
 exact ⟨h0,h4.sd,h4.ok,h4.idx,h4.mem,h4.lo,by have:=h4.hi; omega,h4.rows⟩
theorem MI.one {s y:Sto}{i:Nat}(h:MI s y i) (hi:6≤i):y.parts.length=1:=by have:=h.lo; have:=h.hi; omega
theorem QD:∀ (is:List Int) (bs:List (List Row)) (o:Option Int),CA o is bs=true→is.length=bs.length→∀ is' bs',CA o is' bs'=true→is'.length=bs'.length→(∀ id:Int,Bm id is bs=Bm id is' bs')→is=is'∧bs=bs':=by
 have low:∀ (is:List Int) (bs:List (List Row)) (o:Option Int),CA o is bs=true→∀ q,o=some q→∀ i∈is,q< i:=by
  intro is
  induction is with
  | nil=>intro bs o _ q _ i hi; cases hi
  | cons x xs ih =>
    intro bs o hg q hq i hi
    cases bs with
    | nil=>simp [CA] at hg
    | cons b bs =>
      simp only [CA,AW] at hg
      have hx:q< x:=by have:=hg.1.1.1.2; rw [hq] at this; simpa using this
      rcases List.mem_cons.1 hi with rfl | hi
      ·exact hx
      ·have:=ih bs (some x) hg.2 x rfl i hi; omega
 have none_of:∀ (is:List Int) (bs:List (List Row)) (id:Int),(∀ i∈is,i≠id)→Bm id is bs=[]:=by
  intro is
  induction is with
  | nil=>intro bs id _; unfold Bm; rfl
  | cons i is ih =>
    intro bs id h
    cases bs with
    | nil=>unfold Bm; rfl
    | cons b bs =>
      unfold Bm
      rw [if_neg (by have:=h i AD; simpa using this)]
      exact ih bs id (fun j hj=>h j (by simp [hj]))
 have mem_of:∀ (is:List Int) (bs:List (List Row)) (id:Int),Bm id is bs≠[]→id∈is:=by
  intro is bs id h
  rcases Classical.em (id∈is) with h1 | h1
  ·exact h1
  ·exact absurd (none_of is bs id (fun i hi e=>h1 (e▸hi))) h
 intro is
 induction is with
 | nil =>
   intro bs o hg hl is' bs' hg' hl' h
   cases bs with
   | cons _ _=>simp at hl
   | nil =>
     cases is' with
     | nil =>
       cases bs' with
       | nil=>exact ⟨rfl,rfl⟩
       | cons _ _=>simp at hl'
     | cons i is' =>
       cases bs' with
       | nil=>simp at hl'
       | cons b bs' =>
         simp only [CA,AW,decide_eq_true_eq] at hg'
         have:=h i
         unfold Bm at this
         rw [if_pos AD] at this
         rw [← this] at hg'
         exact absurd hg'.1.1.2 AD
 | cons i is ih =>
   intro bs o hg hl is' bs' hg' hl' h
   cases bs with
   | nil=>simp at hl
   | cons b bs =>
     have hg0:=hg
     simp only [CA,AW,decide_eq_true_eq] at hg
     cases is' with
     | nil =>
       cases bs' with
       | cons _ _=>simp at hl'
       | nil =>
         have:=h i
         unfold Bm at this
         rw [if_pos AD] at this
         rw [this] at hg
         exact absurd hg.1.1.2 AD
     | cons i' is' =>
       cases bs' with
       | nil=>simp at hl'
       | cons b' bs' =>
         have hg0':=hg'
         simp only [CA,AW,decide_eq_true_eq] at hg'
         have a1:Bm i (i'::is') (b'::bs')=b:=by rw [← h i]; unfold Bm; rw [if_pos AD]
         have a2:Bm i' (i::is) (b::bs)=b':=by rw [h i']; unfold Bm; rw [if_pos AD]
         have m1:=mem_of _ _ i (by rw [a1]; exact List.ne_nil_of_length_pos hg.1.1.2)
         have m2:=mem_of _ _ i' (by rw [a2]; exact List.ne_nil_of_length_pos hg'.1.1.2)
         have hii:i=i':=by
          rcases List.mem_cons.1 m1 with e | e
          ·exact e
          ·rcases List.mem_cons.1 m2 with e2 | e2
           ·exact e2.symm
           ·have:=low is' bs' (some i') hg'.2 i' rfl i e
            have:=low is bs (some i) hg.2 i rfl i' e2
            omega
         subst hii
         have hbb:b=b':=by
          rw [← a1]
          unfold Bm
          rw [if_pos AD]
         subst hbb
         have:=ih bs (some i) hg.2 (by simpa using hl) is' bs' hg'.2 (by simpa using hl') (fun id=>by
          by_cases e:i=id
          ·subst e
           rw [none_of is bs i (fun j hj e=>by have:=low is bs (some i) hg.2 i rfl j hj; omega),none_of is' bs' i (fun j hj e=>by have:=low is' bs' (some i) hg'.2 i rfl j hj; omega)]
          ·have:=h id
           unfold Bm at this
           rw [if_neg (by simpa using e),if_neg (by simpa using e)] at this
           exact this)
         rw [this.1,this.2]
         exact ⟨rfl,rfl⟩
theorem MF {p q:Prt}(hp:Az p=true) (hq:Az q=true) (h:∀ id:Int,partOf p id=partOf q id):p=q:=by
 unfold Az at hp hq
 simp only [AW,decide_eq_true_eq] at hp hq
 obtain ⟨e1,e2⟩:=QD p.ids p.blocks none hp.2 hp.1 q.ids q.blocks hq.2 hq.1 h
 cases p
 cases q
 simp only [Prt.mk.injEq]
 exact ⟨e1,e2⟩
end Go.Proofs.YtggnnidleedpaaaGreat
namespace Go.Proofs.YtggnnidleedpaaaGreat
theorem WD.dd {w:Wld}(h:WD w):DD w.disk:=⟨NmG.of h.wi.dsk.nm h.dn,by have:=h.wi.dsk.nl; omega,h.wi.dsk.nf,h.wi.dsk.file,by have:=h.wi.dsk.next; omega⟩
end Go.Proofs.YtggnnidleedpaaaGreat
namespace Go.Proofs.YtggnnidleedpaaaGreat
theorem RG.b2s {P:Program}{n:Nat}{K:Env→World→Prop}{ops:Array Oper}{j:Nat}{e:Env}{w:World}{s d:TypeId}{r c:Nat}{y:UInt8}{t:TypeId}{F:Nat→Prop}
 (ho:Own w r t F 1 c [y]) (h:PL n ops j e=some (s,d,.slice (some ⟨r,0,none⟩) 1 c)) (ht:Q5 P s d=true)
 (H:RG P n K ops (j+1) (BN e (Aq ops j).dst (.string (bs [y]))) w):RG P n K ops j e w:=by
 obtain ⟨cs,h1,h2⟩:=ho.elem 0 y rfl
 cases h1
 have h3:Has w ⟨r,0,none⟩ [.int .u8 (y.toNat:Int)]:=by simpa using h2
 have h4:=Hk (P:=P) (w:=w) h (JP h3 ht)
 exact RG.val h4.1 h4.2 H
theorem MG:∀ (fs:List Fil) (nx:Int) (o:Option Int),DJ nx o fs=true→∀ f∈fs,1≤f.num∧f.num≤nx - 1∧Az f.part=true:=by
 intro fs
 induction fs with
 | nil=>intro nx o _ f hf; cases hf
 | cons x xs ih =>
   intro nx o h f hf
   unfold DJ at h
   simp only [AW] at h
   rcases List.mem_cons.1 hf with rfl | hf
   ·have:=CF h.1.1.1
    exact ⟨this.1,this.2,h.1.2⟩
   ·exact ih nx _ h.2 f hf
theorem NB {p:Prt}(h:PrtI p) (hk:Az p=true):BW p ⟨[],[]⟩=p:=by
 have hb:∀ id:Int,(partOf p id).length≤24:=fun id=>by
  have:=FC hk id
  unfold Bp at this
  simp only [AW,decide_eq_true_eq] at this
  exact this.2
 have e:∀ id:Int,partOf (⟨[],[]⟩:Prt) id=[]:=fun id=>by unfold partOf Bm; rfl
 have hz:∀ id:Int,¬ (1≤id∧id≤6)→∀ q:Prt,Az q=true→partOf q id=[]:=fun id hid q hq=>by
  unfold Az at hq
  simp only [AW,decide_eq_true_eq] at hq
  have key:∀ (is:List Int) (bs:List (List Row)) (o:Option Int),CA o is bs=true→Bm id is bs=[]:=by
   intro is
   induction is with
   | nil=>intro bs o _; unfold Bm; rfl
   | cons i is ih =>
     intro bs o hg
     cases bs with
     | nil=>unfold Bm; rfl
     | cons b bs =>
       simp only [CA,AW] at hg
       have h5:=CF hg.1.1.1.1
       unfold Bm
       rw [if_neg (by simp; omega)]
       exact ih bs _ hg.2
  exact key _ _ _ hq.2
 have hm:Az (BW p ⟨[],[]⟩)=true:=by
  unfold BW
  refine L1 (fun b hb2=>?_) (by rw [DX]; omega)
  unfold Be at hb2
  obtain ⟨i,_,rfl⟩:=List.mem_map.1 hb2
  rw [e,JZ]
  exact ⟨h.of _,hb _⟩
 refine MF hm hk (fun id=>?_)
 by_cases hid:1≤id∧id≤6
 ·rw [Ka _ _ hid.1 hid.2,e,JZ]
 ·rw [hz id hid _ hm,hz id hid _ hk]
theorem Ct {d:Dsk}(h:BI d=true):(1≤d.next∧d.next≤999)∧d.list.length≤6∧DJ d.next none d.files=true∧Da d=true:=by
 unfold BI at h
 simp only [AW,decide_eq_true_eq] at h
 exact ⟨CF h.1.1.1.1.1,h.1.1.1.2,h.1.1.2,h.1.2⟩
theorem DD.SJ {d:Dsk}(h:DD d) (hk:BI d=true):BP d=d:=by
 have hf:=(Ct hk).2.2.1
 have:d.files.map JM=d.files:=by
  have key:∀ f∈d.files,JM f=f:=fun f hm=>by
   unfold JM
   rw [NB (h.file f hm) (MG _ _ _ hf f hm).2.2]
  exact (List.map_congr_left key).trans (List.map_id _)
 unfold BP
 rw [this]
theorem DD.di {d:Dsk}(h:DD d) (hk:BI d=true):DskI d:=by
 obtain ⟨h1,h2,h3,h4⟩:=Ct hk
 have hth:∀ n∈d.list,∃ f∈d.files,f.num=n:=fun n hn=>(Ea d n).1 (EC h4 n hn)
 refine ⟨(FD hk).1,h.nf,h.file,h2,hth,fun n hn=>?_,h1⟩
 obtain ⟨f,hf,rfl⟩:=hth n hn
 have:=MG _ _ _ h3 f hf
 omega
theorem QE:(HJ 0 [] []).length≤12:=by decide
theorem QF:DD ⟨[],[],[],0⟩:=⟨⟨by simp,NsD.nil,QE⟩,by simp,by simp,by simp,by simp⟩
end Go.Proofs.YtggnnidleedpaaaGreat
namespace Go.Proofs.YtggnnidleedpaaaGreat
def CW (d:Dsk) (s:Sto):Bool:=BI d&&(nmB s.idx.names&&Al s)&&decide (s.parts=d.list.map (BH d))&&decide (d.names=s.idx.names.take d.names.length)
theorem S5 {d:Dsk}{s:Sto}(h:BI d=false):false=CW d s:=by unfold CW; rw [h]; rfl
theorem S6 {d:Dsk}{s:Sto}(h:(nmB s.idx.names&&Al s)=false):false=CW d s:=by unfold CW; rw [h,Bool.and_false]; rfl
theorem S7 {d:Dsk}{s:Sto}(h:s.parts≠d.list.map (BH d)):false=CW d s:=by unfold CW; rw [decide_eq_false h,Bool.and_false]; rfl
theorem QG {d:Dsk}{s:Sto}(h:d.names≠s.idx.names.take d.names.length):false=CW d s:=by unfold CW; rw [decide_eq_false h,Bool.and_false]
theorem Rm {d:Dsk}{s:Sto}(h:(s.idx.names.length:Int)< d.names.length):false=CW d s:=QG (fun e=>by
 have:=congrArg List.length e
 rw [List.length_take] at this
 omega)
theorem MH {d:Dsk}{s:Sto}(h1:BI d=true) (h2:(nmB s.idx.names&&Al s)=true) (h3:s.parts=d.list.map (BH d)) (h4:d.names=s.idx.names.take d.names.length):true=CW d s:=by unfold CW; rw [h1,h2,decide_eq_true h3,decide_eq_true h4]; rfl
structure Fits (d:Dsk) (s:Sto):Prop where
 dk:BI d=true
 nm:nmB s.idx.names=true
 sk:Al s=true
 p:s.parts=d.list.map (BH d)
 m:d.names=s.idx.names.take d.names.length
theorem C0 {d:Dsk}{s:Sto}(h:CW d s=true):Fits d s:=by
 unfold CW at h
 simp only [AW,decide_eq_true_eq] at h
 exact ⟨h.1.1.1,h.1.1.2.1,h.1.1.2.2,h.1.2,h.2⟩
def An (d:Dsk) (s:Sto):List Stp:=if CW d s then BD d s else []
theorem Eg {d:Dsk}{s:Sto}(h:CW d s=true):An d s=BD d s:=by unfold An; rw [if_pos h]
theorem MJ {d:Dsk}{s:Sto}(h:CW d s=false):An d s=[]:=by unfold An; rw [if_neg (by simp [h])]
end Go.Proofs.YtggnnidleedpaaaGreat
namespace Go.Proofs.YtggnnidleedpaaaGreat
theorem S8 {d:Dsk}{s y:Sto}(hy:Dm d y) (h:(s.parts==y.parts)=false):false=CW d s:=S7 (fun e=>by
 have e2:s.parts=y.parts:=e.trans hy.2.1.symm
 rw [e2] at h
 simp at h)
theorem S9 {d:Dsk}{s y:Sto}(hy:Dm d y) (h:(s.parts==y.parts)=true):s.parts=d.list.map (BH d):=(eq_of_beq h).trans hy.2.1
theorem TA {d:Dsk}{s:Sto}(h:¬ (d.names.length:Int)≤s.idx.names.length):false=CW d s:=Rm AB
theorem TB {d:Dsk}{s y:Sto}{l:List (List Tag)}(hy:Dm d y) (h1:BI d=true) (h2:(nmB s.idx.names&&Al s)=true) (h3:(s.parts==y.parts)=true) (hl:l=s.idx.names.take d.names.length):(d.names==l)=CW d s:=by
 subst hl
 by_cases e:d.names=s.idx.names.take d.names.length
 ·rw [beq_iff_eq.2 e]
  exact MH h1 h2 (S9 hy h3) e
 ·rw [beq_eq_false_iff_ne.2 e]
  exact QG e
def EK (d:Dsk):Bool:=(d.next==999) || decide ((d.files.length:Int)=20)
theorem Rn {d:Dsk}(h:(d.next==999)=true):true=EK d:=by unfold EK; rw [h]; rfl
theorem QH {d:Dsk}(h:d.next=999):true=EK d:=Rn (by simp [h])
theorem Ro {d:Dsk}(h:¬ d.next=999):((d.files.length:Int)==20)=EK d:=by unfold EK; rw [beq_eq_false_iff_ne.2 h,Bool.false_or]; by_cases e:(d.files.length:Int)=20 <;> simp [e]
theorem Ny {d:Dsk}(h:EK d=false):¬ d.next=999∧¬ (d.files.length:Int)=20:=by
 unfold EK at h
 simpa using h
theorem Nz {d:Dsk}(h:EK d=true):d.next=999∨(d.files.length:Int)=20:=by
 unfold EK at h
 simpa using h
theorem Ty {d:Dsk}{s:Sto}(h:CW d s=false):[]=An d s:=(MJ h).symm
theorem TC {d:Dsk}{s:Sto}(h:(s.mem.length:Int)=0∨(d.list.length:Int)=6∨EK d=true):[]=An d s:=by
 cases hf:CW d s with
 | false=>exact Ty hf
 | true =>
   rw [Eg hf,EY]
   rcases h with h | h | h
   ·exact .inl h
   ·exact .inr (.inl AB)
   ·rcases Nz h with h | h
    ·exact .inr (.inr (.inl AB))
    ·exact .inr (.inr (.inr AB))
theorem UX {d:Dsk}{s:Sto}(hf:CW d s=true) (h1:¬ (s.mem.length:Int)=0) (h2:¬ (d.list.length:Int)=6) (h3:EK d=false) (hd:DD d):[⟨1,d.next,BJ s.mem,[],[]⟩,⟨2,0,⟨[],[]⟩,d.list++[d.next],s.idx.names⟩]=An d s:=by
 have hk:=(C0 hf).dk
 have:=(Ct hk).2.1
 have:=(Ct hk).1
 have:=hd.nf
 have:=Ny h3
 rw [Eg hf,D8 h1 AB AB AB]
theorem Cw {d:Dsk}{s:Sto}(hs:SG s) (h:CW d s=true):SD s:=by
 obtain ⟨h1,h2,h3,h4,h5⟩:=C0 h
 exact hs.sd h2 (LI h3)
end Go.Proofs.YtggnnidleedpaaaGreat
namespace Go.Proofs.YtggnnidleedpaaaGreat
set_option maxRecDepth 100000
set_option maxHeartbeats 4000000
variable {w:World} {F:Nat→Prop} {a1 a2 a3 a4 a5 a6 a7:Option Addr} {n1 c1 n2 c2 n3 c3 n4 c4 n5 c5 n6 c6 n7 c7:Nat}
theorem Dn (a:List Row) (b:List Row) (h1:RepS w F a1 n1 c1 a) (h2:RepS w F a2 n2 c2 b)  : Calls Tryz.prog 119 [.slice a1 n1 c1,.slice a2 n2 c2].toArray w (BB fun rv w'=>rv=.bool ((a==b))∧Ext w w'):=by
 refine goT func119 ?_
 obtain ⟨rfl,au,h1⟩:=h1.tp
 obtain ⟨rfl,av,h2⟩:=h2.tp
 refine .s<|.g<|.r 1<|.d<|.s<|.s<|.g<|.r 4<|.ne (a.length:Int) (b.length:Int) (fun ai=>.d<|.ct<|.s<|.g<|.r 1<|.d<|.rt func119 results119 (.bool false) ⟨(AG (by grind [Ab])),(Chg.refl _ _)⟩) fun ai=>.d<|.cf<|.sk<|.s<|.s<|.g<|.r 3<|.d<|.b 0<|T.loop (X:=Nat) 0 (fun k=>[(0,.slice a1 a.length c1),(1,.slice a2 b.length c2),(12,vI (a.length:Int)),(13,vI (k:Int))]) (fun k ab=>Chg (ins []) w ab∧(k≤a.length)∧(a.drop k=b.drop k↔a=b)) (fun k=>a.length - k) AA ⟨AA,AA,AA,AA,trivial⟩ ⟨Chg.refl _ _,AD,AD⟩ ?_
 rintro k aB ab ⟨C,aw,ax⟩ J
 have ac:Mv [] [] w ab:=Mv.inl C all_nil all_nil
 replace ⟨h1,h2⟩:=(sp ac C).g2 h1 h2
 have E:Chg nil w ab:=Chg.Cr (Chg.refl nil w) C all_nil
 refine .s<|.g<|.bp ((k:Int)< (a.length:Int)) (fun aj=>?_) (fun aj=>.d<|.s<|.cf<|.x 0 rfl<|.s<|.g<|.r 1<|.d<|.rt func119 results119 (.bool true) ⟨(AG (by grind [Ab])),E⟩)
 refine .d<|.s<|.ct<|.sk<|.s<|.b 1<|.s<|.g<|.r 2<|.d<|.s<|.gd nil 8 fun aC ae=>?_
 replace ⟨h1,h2,E,C⟩:=(se [] ae).g4 h1 h2 E C
 refine .r [0,1] ?_
 have ak:k< a.length:=AB
 refine .ix 2 k 2 h1 ak ?_
 obtain ⟨ag,W⟩:∃ y,a[k]? = some y:=⟨_,AU AB⟩
 have ay:=Ai W
 obtain ⟨_,rfl,al⟩:=h1.elem k ag W
 refine .lg 3 0 al id<|.r [4,5] ?_
 have am:k< b.length:=AB
 refine .ix 6 k 2 h2 am ?_
 obtain ⟨ah,aa⟩:∃ y,b[k]? = some y:=⟨_,AU AB⟩
 have az:=Ai aa
 obtain ⟨_,rfl,ao⟩:=h2.elem k ah aa
 refine .lg 7 0 ao id<|.d fun aD af=>?_
 replace ⟨E,C⟩:=(se [] af).g2 E C
 refine RG.O3 (t:=56) (x:=ag) (y:=ah) AA AA ?_
 cases aA:(ag==ah)
 ·exact .d<|.ct<|.s<|.g<|.r 1<|.d<|.rt func119 results119 (.bool false) ⟨(AG (by grind [Ab])),E⟩
 exact .d<|.cf<|.sk<|.ib 1<|.g<|.it ((k:Int)+1)<|.r 1<|.d<|J (k+1) _ _ ⟨AA,AA,AA,AA,trivial⟩ ⟨C,AB,(by grind)⟩ AB
theorem Gv (s1:List (List Row)) (s2:List (List Row)) (h1:RepS w F a1 n1 c1 s1) (h2:RepS w F a2 n2 c2 s2)  : Calls Tryz.prog 118 [.slice a1 n1 c1,.slice a2 n2 c2,.func (.func 119) #[] #[]].toArray w (BB fun rv w'=>rv=.bool ((s1==s2))∧Ext w w'):=by
 refine goT func118 ?_
 obtain ⟨rfl,ax,h1⟩:=h1.tp
 obtain ⟨rfl,ay,h2⟩:=h2.tp
 refine .s<|.g<|.r 1<|.d<|.s<|.s<|.g<|.r 4<|.ne (s1.length:Int) (s2.length:Int) (fun aj=>.d<|.ct<|.s<|.g<|.r 1<|.d<|.rt func118 results118 (.bool false) ⟨(AG (by grind [Ab])),(Chg.refl _ _)⟩) fun aj=>.d<|.cf<|.sk<|.s<|.s<|.g<|.r 3<|.d<|.b 0<|T.loop (X:=Nat) 0 (fun k=>[(1,.slice a2 s2.length c2),(2,.func (.func 119) #[] #[]),(15,.slice a1 s1.length c1),(16,vI (s1.length:Int)),(17,vI (k:Int))]) (fun k J=>Chg (ins []) w J∧(k≤s1.length)∧(s1.drop k=s2.drop k↔s1=s2)) (fun k=>s1.length - k) AA ⟨AA,AA,AA,AA,AA,trivial⟩ ⟨Chg.refl _ _,AD,AD⟩ ?_
 rintro k aG J ⟨C,az,aA⟩ W
 have ac:Mv [] [] w J:=Mv.inl C all_nil all_nil
 replace ⟨h1,h2⟩:=(sp ac C).g2 h1 h2
 have E:Chg nil w J:=Chg.Cr (Chg.refl nil w) C all_nil
 refine .s<|.g<|.bp ((k:Int)< (s1.length:Int)) (fun ak=>?_) (fun ak=>.d<|.s<|.cf<|.x 0 rfl<|.s<|.g<|.r 1<|.d<|.rt func118 results118 (.bool true) ⟨(AG (by grind [Ab])),E⟩)
 refine .d<|.s<|.ct<|.sk<|.s<|.b 1<|.s<|.g<|.r 1 ?_
 have al:k< s1.length:=AB
 refine .ix k 1 h1 al ?_
 obtain ⟨af,aa⟩:∃ y,s1[k]? = some y:=⟨_,AU AB⟩
 have aB:=Ai aa
 obtain ⟨_,⟨aH,aI,aJ,rfl,ag⟩,am⟩:=h1.elem k af aa
 have ao:=ag.len
 subst ao
 refine .lh 0 am<|.r 2<|.d<|.s<|.g<|.r 2 ?_
 have aq:k< s2.length:=AB
 refine .ix k 1 h2 aq ?_
 obtain ⟨ah,ab⟩:∃ y,s2[k]? = some y:=⟨_,AU AB⟩
 have aD:=Ai ab
 obtain ⟨_,⟨aK,aL,aM,rfl,ai⟩,ar⟩:=h2.elem k ah ab
 have au:=ai.len
 subst au
 refine .lh 0 ar<|.r 1<|.d<|.s<|.g<|.r 3<|.cl (Dn af ah ag.ta ai.ta (w:=J) (F:=all)) ?_
 rintro aN aO ⟨rfl,ae⟩
 replace ⟨E,C⟩:=(se [] ae).g2 E C
 cases aF:(af==ah)
 ·exact .r 1<|.d<|.ct<|.s<|.g<|.r 1<|.d<|.rt func118 results118 (.bool false) ⟨(AG (by grind [Ab])),E⟩
 exact .r 1<|.d<|.cf<|.sk<|.ib 1<|.g<|.it ((k:Int)+1)<|.r 1<|.d<|W (k+1) _ _ ⟨AA,AA,AA,AA,AA,trivial⟩ ⟨C,AB,(by grind)⟩ AB
theorem HS (s1:List (List Tag)) (s2:List (List Tag)) (h1:RepS w F a1 n1 c1 s1) (h2:RepS w F a2 n2 c2 s2)  : Calls Tryz.prog 76 [.slice a1 n1 c1,.slice a2 n2 c2,.func (.func 77) #[] #[]].toArray w (BB fun rv w'=>rv=.bool ((s1==s2))∧Ext w w'):=by
 refine goT func76 ?_
 obtain ⟨rfl,ax,h1⟩:=h1.tp
 obtain ⟨rfl,ay,h2⟩:=h2.tp
 refine .s<|.g<|.r 1<|.d<|.s<|.s<|.g<|.r 4<|.ne (s1.length:Int) (s2.length:Int) (fun aj=>.d<|.ct<|.s<|.g<|.r 1<|.d<|.rt func76 results76 (.bool false) ⟨(AG (by grind [Ab])),(Chg.refl _ _)⟩) fun aj=>.d<|.cf<|.sk<|.s<|.s<|.g<|.r 3<|.d<|.b 0<|T.loop (X:=Nat) 0 (fun k=>[(1,.slice a2 s2.length c2),(2,.func (.func 77) #[] #[]),(15,.slice a1 s1.length c1),(16,vI (s1.length:Int)),(17,vI (k:Int))]) (fun k J=>Chg (ins []) w J∧(k≤s1.length)∧(s1.drop k=s2.drop k↔s1=s2)) (fun k=>s1.length - k) AA ⟨AA,AA,AA,AA,AA,trivial⟩ ⟨Chg.refl _ _,AD,AD⟩ ?_
 rintro k aG J ⟨C,az,aA⟩ W
 have ac:Mv [] [] w J:=Mv.inl C all_nil all_nil
 replace ⟨h1,h2⟩:=(sp ac C).g2 h1 h2
 have E:Chg nil w J:=Chg.Cr (Chg.refl nil w) C all_nil
 refine .s<|.g<|.bp ((k:Int)< (s1.length:Int)) (fun ak=>?_) (fun ak=>.d<|.s<|.cf<|.x 0 rfl<|.s<|.g<|.r 1<|.d<|.rt func76 results76 (.bool true) ⟨(AG (by grind [Ab])),E⟩)
 refine .d<|.s<|.ct<|.sk<|.s<|.b 1<|.s<|.g<|.r 1 ?_
 have al:k< s1.length:=AB
 refine .ix k 1 h1 al ?_
 obtain ⟨af,aa⟩:∃ y,s1[k]? = some y:=⟨_,AU AB⟩
 have aB:=Ai aa
 obtain ⟨_,⟨aH,aI,aJ,rfl,ag⟩,am⟩:=h1.elem k af aa
 have ao:=ag.len
 subst ao
 refine .lh 0 am<|.r 2<|.d<|.s<|.g<|.r 2 ?_
 have aq:k< s2.length:=AB
 refine .ix k 1 h2 aq ?_
 obtain ⟨ah,ab⟩:∃ y,s2[k]? = some y:=⟨_,AU AB⟩
 have aD:=Ai ab
 obtain ⟨_,⟨aK,aL,aM,rfl,ai⟩,ar⟩:=h2.elem k ah ab
 have au:=ai.len
 subst au
 refine .lh 0 ar<|.r 1<|.d<|.s<|.g<|.r 3<|.cl (Cc af ah ag.ta ai.ta (w:=J) (F:=all)) ?_
 rintro aN aO ⟨rfl,ae⟩
 replace ⟨E,C⟩:=(se [] ae).g2 E C
 cases aF:(af==ah)
 ·exact .r 1<|.d<|.ct<|.s<|.g<|.r 1<|.d<|.rt func76 results76 (.bool false) ⟨(AG (by grind [Ab])),E⟩
 exact .r 1<|.d<|.cf<|.sk<|.ib 1<|.g<|.it ((k:Int)+1)<|.r 1<|.d<|W (k+1) _ _ ⟨AA,AA,AA,AA,AA,trivial⟩ ⟨C,AB,(by grind)⟩ AB
theorem Ik (a:Prt) (b:Prt) (h1:RepS w F a1 n1 c1 a.ids) (h2:RepS w F a2 n2 c2 a.blocks) (h3:RepS w F a3 n3 c3 b.ids) (h4:RepS w F a4 n4 c4 b.blocks)  : Calls Tryz.prog 75 [.agg #[.slice a1 n1 c1,.slice a2 n2 c2],.agg #[.slice a3 n3 c3,.slice a4 n4 c4]].toArray w (BB fun rv w'=>rv=.bool ((a==b))∧Ext w w'):=by
 refine goT func75 ?_
 obtain ⟨rfl,am,h1⟩:=h1.tp
 obtain ⟨rfl,ao,h2⟩:=h2.tp
 obtain ⟨rfl,aq,h3⟩:=h3.tp
 obtain ⟨rfl,ar,h4⟩:=h4.tp
 refine .s<|.g<|.np 48 [.slice a1 a.ids.length c1,.slice a2 a.blocks.length c2] fun ag av aa W E ah=>?_
 replace ⟨h1,h2,h3,h4⟩:=(sn [] W aa).g4 h1 h2 h3 h4
 have C:=W
 refine .np 48 [.slice a3 b.ids.length c3,.slice a4 b.blocks.length c4] fun aj ak ab ac J ai=>?_
 replace ⟨h1,h2,h3,h4,E,C⟩:=(sn [ag] ac ab).g6 h1 h2 h3 h4 E C
 refine .r 1<|.d<|.s<|.g<|.r 1<|.lb E<|.r 1<|.lb J<|.cl (De a.ids b.ids h1.ta h3.ta (w:=ak) (F:=all)) ?_
 rintro aw al ⟨rfl,ae⟩
 replace ⟨h2,h4,E,J,C⟩:=(se [aj,ag] ae).g5 h2 h4 E J C
 cases au:(a.ids==b.ids)
 ·exact .r 8<|.d<|.rt func75 results75 (.bool false) ⟨(AG (by cases a; cases b; grind)),C⟩
 refine .r 2<|.lb E<|.r 1<|.lb J<|.cl (Gv a.blocks b.blocks h2.ta h4.ta (w:=al) (F:=all)) ?_
 rintro ax ay ⟨rfl,af⟩
 replace C:=(se [] af).g1 C
 exact .r 2<|.d<|.rt func75 results75 (.bool (a.blocks==b.blocks)) ⟨(AG (by cases a; cases b; grind)),C⟩
theorem HT (s1:List Prt) (s2:List Prt) (h1:RepS w F a1 n1 c1 s1) (h2:RepS w F a2 n2 c2 s2)  : Calls Tryz.prog 74 [.slice a1 n1 c1,.slice a2 n2 c2,.func (.func 75) #[] #[]].toArray w (BB fun rv w'=>rv=.bool ((s1==s2))∧Ext w w'):=by
 refine goT func74 ?_
 obtain ⟨rfl,ba,h1⟩:=h1.tp
 obtain ⟨rfl,bc,h2⟩:=h2.tp
 refine .s<|.g<|.r 1<|.d<|.s<|.s<|.g<|.r 4<|.ne (s1.length:Int) (s2.length:Int) (fun ax=>.d<|.ct<|.s<|.g<|.r 1<|.d<|.rt func74 results74 (.bool false) ⟨(AG (by grind [Ab])),(Chg.refl _ _)⟩) fun ax=>.d<|.cf<|.sk<|.s<|.s<|.g<|.r 3<|.d<|.b 0<|T.loop (X:=Nat) 0 (fun k=>[(1,.slice a2 s2.length c2),(2,.func (.func 75) #[] #[]),(15,.slice a1 s1.length c1),(16,vI (s1.length:Int)),(17,vI (k:Int))]) (fun k al=>Chg (ins []) w al∧(k≤s1.length)∧(s1.drop k=s2.drop k↔s1=s2)) (fun k=>s1.length - k) AA ⟨AA,AA,AA,AA,AA,trivial⟩ ⟨Chg.refl _ _,AD,AD⟩ ?_
 rintro k bw al ⟨C,bd,bg⟩ ag
 have am:Mv [] [] w al:=Mv.inl C all_nil all_nil
 replace ⟨h1,h2⟩:=(sp am C).g2 h1 h2
 have E:Chg nil w al:=Chg.Cr (Chg.refl nil w) C all_nil
 refine .s<|.g<|.bp ((k:Int)< (s1.length:Int)) (fun ay=>?_) (fun ay=>.d<|.s<|.cf<|.x 0 rfl<|.s<|.g<|.r 1<|.d<|.rt func74 results74 (.bool true) ⟨(AG (by grind [Ab])),E⟩)
 refine .d<|.s<|.ct<|.sk<|.s<|.b 1<|.s<|.g<|.r 1 ?_
 have az:k< s1.length:=AB
 refine .ix k 2 h1 az ?_
 obtain ⟨ah,ai⟩:∃ y,s1[k]? = some y:=⟨_,AU AB⟩
 have bh:=Ai ai
 obtain ⟨_,⟨aQ,bz,aR,aS,bA,aT,rfl,J,W⟩,aA⟩:=h1.elem k ah ai
 have aB:=J.len
 subst aB
 have aC:=W.len
 subst aC
 refine .lg 0 aA<|.np 48 [AH,AH] fun aw bB af ao aD aE=>?_
 have bk:=E.cn af
 have bm:=C.cn af
 replace ⟨h2,J,W,E,C⟩:=(sn [] ao af).g5 h2 J W E C
 refine .r 1<|.sc [.slice aQ ah.ids.length aR,.slice aS ah.blocks.length aT] aD fun bC aq aa aF=>?_
 replace ⟨h2,J,W,E,C⟩:=(so [aw] aq).g5 h2 J W E C
 refine .d<|.s<|.g<|.r 2 ?_
 have aG:k< s2.length:=AB
 refine .ix k 2 h2 aG ?_
 obtain ⟨aj,ak⟩:∃ y,s2[k]? = some y:=⟨_,AU AB⟩
 have bn:=Ai ak
 obtain ⟨_,⟨aU,bD,aV,aW,bE,aX,rfl,ac,ae⟩,aH⟩:=h2.elem k aj ak
 have aI:=ac.len
 subst aI
 have aJ:=ae.len
 subst aJ
 refine .lg 0 aH<|.np 48 [AH,AH] fun aY bF ab ar aK aL=>?_
 have br:=AX ab aa.lt
 have bt:=E.cn ab
 have bu:=C.cn ab
 replace ⟨J,W,aa,ac,ae,E,C⟩:=(sn [aw] ar ab).g7 J W aa ac ae E C
 refine .sc [.slice aU aj.ids.length aV,.slice aW aj.blocks.length aX] aK fun aZ au aM aN=>?_
 replace ⟨J,W,aa,ac,ae,E,C⟩:=(so [aY,aw] au).g7 J W aa ac ae E C
 refine .d<|.s<|.g<|.r 1<|.ln aa<|.ln aM<|.cl (Ik ah aj J.ta W.ta ac.ta ae.ta (w:=aZ) (F:=all)) ?_
 rintro bG bH ⟨rfl,av⟩
 replace ⟨E,C⟩:=(se [] av).g2 E C
 cases bv:(ah==aj)
 ·exact .r 1<|.d<|.ct<|.s<|.g<|.r 1<|.d<|.rt func74 results74 (.bool false) ⟨(AG (by grind [Ab])),E⟩
 exact .r 1<|.d<|.cf<|.sk<|.ib 1<|.g<|.it ((k:Int)+1)<|.r 1<|.d<|ag (k+1) _ _ ⟨AA,AA,AA,AA,AA,trivial⟩ ⟨C,AB,(by grind)⟩ AB
theorem FE (d:Dsk) (h1:RepS w F a1 n1 c1 d.files) (h2:RepS w F a2 n2 c2 d.list) (h3:RepS w F a3 n3 c3 d.names)  : Calls Tryz.prog 97 [.agg #[.slice a1 n1 c1,.slice a2 n2 c2,.slice a3 n3 c3,.int .i64 d.next]].toArray w (BB fun rv w'=>rv=.bool (EK d)∧Ext w w'):=by
 refine goT func97 ?_
 obtain ⟨rfl,ac,h1⟩:=h1.tp
 obtain ⟨rfl,ae,h2⟩:=h2.tp
 obtain ⟨rfl,af,h3⟩:=h3.tp
 refine .s<|.g<|.np 36 [.slice a1 d.files.length c1,.slice a2 d.list.length c2,.slice a3 d.names.length c3,vI d.next] fun ag ah W C E aa=>?_
 have J:=C
 exact .r 1<|.d<|.s<|.g<|.r 1<|.lb E<|.eq d.next 999 (fun ab=>.r 7<|.d<|.rt func97 results97 (.bool true) ⟨(AG (by exact QH ‹_›)),J⟩) fun ab=>.r 2<|.lb E<|.r 4<|.d<|.rt func97 results97 (.bool ((d.files.length:Int)==20)) ⟨(AG (by exact Ro ‹_›)),J⟩
theorem F5 (s:Sto) (d:Dsk) (h1:RepS w F a1 n1 c1 s.idx.names) (h2:RepS w F a2 n2 c2 s.idx.AY) (h3:RepS w F a3 n3 c3 s.parts) (h4:RepS w F a4 n4 c4 s.mem) (h5:RepS w F a5 n5 c5 d.files) (h6:RepS w F a6 n6 c6 d.list) (h7:RepS w F a7 n7 c7 d.names) (p0:SG s) (p1:DD d):Calls Tryz.prog 40 [.agg #[.slice a1 n1 c1,.slice a2 n2 c2,.slice a3 n3 c3,.slice a4 n4 c4],.agg #[.slice a5 n5 c5,.slice a6 n6 c6,.slice a7 n7 c7,.int .i64 d.next]].toArray w (BB fun rv w'=>rv=.bool (CW d s)∧Ext w w'):=by
 refine goT func40 ?_
 obtain ⟨rfl,aU,h1⟩:=h1.tp
 obtain ⟨rfl,aV,h2⟩:=h2.tp
 obtain ⟨rfl,aW,h3⟩:=h3.tp
 obtain ⟨rfl,aX,h4⟩:=h4.tp
 obtain ⟨rfl,aY,h5⟩:=h5.tp
 obtain ⟨rfl,aZ,h6⟩:=h6.tp
 obtain ⟨rfl,ba,h7⟩:=h7.tp
 refine .s<|.g<|.np 32 [.slice a1 s.idx.names.length c1,.slice a2 s.idx.AY.length c2,.slice a3 s.parts.length c3,.slice a4 s.mem.length c4] fun W bw ay ai E aH=>?_
 replace ⟨h1,h2,h3,h4,h5,h6,h7⟩:=(sn [] ai ay).g7 h1 h2 h3 h4 h5 h6 h7
 have C:=ai
 refine .np 36 [.slice a5 d.files.length c5,.slice a6 d.list.length c6,.slice a7 d.names.length c7,vI d.next] fun aa bz az aA J aI=>?_
 replace ⟨h1,h2,h3,h4,h5,h6,h7,E,C⟩:=(sn [W] aA az).g9 h1 h2 h3 h4 h5 h6 h7 E C
 refine .r 1<|.d<|.s<|.s<|.gd nil 14 fun bA aB=>?_
 replace ⟨h1,h2,h3,h4,h5,h6,h7,E,J,C⟩:=(se [aa,W] aB).g10 h1 h2 h3 h4 h5 h6 h7 E J C
 refine .ln 0 E id<|GA.Dt (i:=1) AA (fun aP ag=>EF s (h1.ta.ext ag) (h2.ta.ext ag) (h3.ta.ext ag) (h4.ta.ext ag) p0 (w:=aP) (F:=all)) ?_
 cases bc:(nmB s.idx.names&&Al s)
 ·refine .r [2,3,4,5,6,7,8]<|GA.skip AA fun bB aC=>?_
  replace ⟨h1,h3,h5,h6,h7,E,J,C⟩:=(se [aa,W] aC).g8 h1 h3 h5 h6 h7 E J C
  exact .r 3<|.d<|.ct<|.s<|.g<|.r 1<|.d<|.rt func40 results40 (.bool false) ⟨(AG (by exact S6 ‹_›)),C⟩
 refine .r [2,3]<|.ln 4 J id<|GA.Dt (i:=5) AA (fun aQ aj=>Cv d (h5.ta.ext aj) (h6.ta.ext aj) (h7.ta.ext aj) p1 (w:=aQ) (F:=all)) ?_
 cases bd:(BI d)
 ·refine .r [6,7,8]<|GA.skip AA fun bC aD=>?_
  replace ⟨h1,h3,h5,h6,h7,E,J,C⟩:=(se [aa,W] aD).g8 h1 h3 h5 h6 h7 E J C
  exact .r 3<|.d<|.ct<|.s<|.g<|.r 1<|.d<|.rt func40 results40 (.bool false) ⟨(AG (by exact S5 ‹_›)),C⟩
 refine .r [6,7,8,9]<|.lb 10 E id<|.ln 11 J id<|.go 12<|.cl (fun aE ab=>D1 d (h5.ta.ext ab) (h6.ta.ext ab) (h7.ta.ext ab) p1 (EC (Ct ‹_›).2.2.2) (w:=aE) (F:=all)) ?_
 intro aE ab
 replace ⟨h1,h3,h7,E,J,C⟩:=(se [aa,W] ab).g6 h1 h3 h7 E J C
 rintro bD bE ⟨⟨aJ,⟨_,rfl,⟨bF,bG,bH,bI,bJ,bK,bL,bM,bN,bO,bP,bQ,rfl,av,aw,af,ax⟩⟩,bg⟩,ak⟩
 have ac:=al2 J.lt E.lt
 have ah:Gb w.heap.size aE.heap.size:=C.size
 have hkeep_:=ak
 replace ⟨h1,h3,h7,E,J,C⟩:=(se [aa,W] ak).g6 h1 h3 h7 E J C
 refine ⟨Ext.chg hkeep_,?_⟩
 have av:=av.fr ac ah
 have bh:=av.max
 have aw:=aw.fr ac ah
 have bi:=aw.max
 have af:=af.fr ac ah
 have bj:=af.max
 have ax:=ax.fr ac ah
 have bk:=ax.max
 have aK:=av.len
 subst aK
 have aL:=aw.len
 subst aL
 have aM:=af.len
 subst aM
 have aF:=ax.len
 subst aF
 refine .r [13]<|.d fun aN al=>?_
 replace ⟨h1,h3,h7,E,J,af,C⟩:=(se [aa,W] al).g7 h1 h3 h7 E J af C
 refine .cl (HT s.parts aJ.parts h3.ta af.ta (w:=aN) (F:=all)) ?_
 rintro bm bn ⟨rfl,am⟩
 replace ⟨h1,h7,E,J,C⟩:=(se [aa,W] am).g5 h1 h7 E J C
 cases aR:(s.parts==aJ.parts)
 ·exact .r 2<|.d<|.ct<|.s<|.g<|.r 1<|.d<|.rt func40 results40 (.bool false) ⟨(AG (by exact S8 ‹_› ‹_›)),C⟩
 refine .r 2<|.d<|.cf<|.sk<|.s<|.g<|.r 1<|.lb J<|.r 2<|.d<|.s<|.gd nil 14 fun bo ao=>?_
 replace ⟨h1,h7,E,J,C⟩:=(se [aa,W] ao).g5 h1 h7 E J C
 refine .r [0,1,2]<|.lb 3 E id<|.r [4]<|GA.Ey (i:=5) ((d.names.length:Int)≤(s.idx.names.length:Int)) AA (fun aG=>?_) (fun aG=>?_)
 ·refine .r [6,7]<|.lb 8 J id<|.r [9,10]<|.lb 11 E id<|.r [12]<|GA.sub (i:=13) (t:=25) (lo:=none) (hi:=some (vI (d.names.length:Int))) AA h1 0 d.names.length AA AA (.inl ⟨rfl,rfl⟩) (.inr ⟨_,_,rfl,by omega⟩) AB AB fun bq br ae=>?_
  refine .d fun aO aq=>?_
  replace ⟨h7,ae,C⟩:=(se [aa,W] aq).g3 h7 ae C
  refine .cl (HS d.names ((s.idx.names.take d.names.length).drop 0) h7.ta ae.ta (w:=aO) (F:=all)) ?_
  rintro bt bu ⟨rfl,ar⟩
  replace C:=(se [] ar).g1 C
  exact .r 2<|.d<|.rt func40 results40 (.bool (d.names==((s.idx.names.take d.names.length).drop 0))) ⟨(AG (by exact TB ‹_› ‹_› ‹_› ‹_› AD)),C⟩
 refine .r [6]<|GA.skip AA fun bv au=>?_
 replace C:=(se [] au).g1 C
 exact .r 3<|.d<|.rt func40 results40 (.bool false) ⟨(AG (by exact TA ‹_›)),C⟩
theorem HU (d:Dsk) (s:Sto) (h1:RepS w F a1 n1 c1 d.files) (h2:RepS w F a2 n2 c2 d.list) (h3:RepS w F a3 n3 c3 d.names) (h4:RepS w F a4 n4 c4 s.idx.names) (h5:RepS w F a5 n5 c5 s.idx.AY) (h6:RepS w F a6 n6 c6 s.parts) (h7:RepS w F a7 n7 c7 s.mem) (p0:DD d) (p1:SG s):Calls Tryz.prog 55 [.agg #[.slice a1 n1 c1,.slice a2 n2 c2,.slice a3 n3 c3,.int .i64 d.next],.agg #[.slice a4 n4 c4,.slice a5 n5 c5,.slice a6 n6 c6,.slice a7 n7 c7]].toArray w (BB fun rv w'=>VL (ge w.heap.size) w' (An d s:List Stp) rv∧Ext w w'):=by
 refine goT func55 ?_
 obtain ⟨rfl,qF,h1⟩:=h1.tp
 obtain ⟨rfl,qG,h2⟩:=h2.tp
 obtain ⟨rfl,qH,h3⟩:=h3.tp
 obtain ⟨rfl,qI,h4⟩:=h4.tp
 obtain ⟨rfl,qJ,h5⟩:=h5.tp
 obtain ⟨rfl,qK,h6⟩:=h6.tp
 obtain ⟨rfl,qL,h7⟩:=h7.tp
 refine .s<|.g<|.np 36 [.slice a1 d.files.length c1,.slice a2 d.list.length c2,.slice a3 d.names.length c3,vI d.next] fun ab qZ kS gZ E mc=>?_
 replace ⟨h1,h2,h3,h4,h5,h6,h7⟩:=(sn [] gZ kS).g7 h1 h2 h3 h4 h5 h6 h7
 have J:=gZ
 refine .np 32 [.slice a4 s.idx.names.length c4,.slice a5 s.idx.AY.length c5,.slice a6 s.parts.length c6,.slice a7 s.mem.length c7] fun ac o6 kT kU aa mh=>?_
 replace ⟨h1,h2,h3,h4,h5,h6,h7,E,J⟩:=(sn [ab] kU kT).g9 h1 h2 h3 h4 h5 h6 h7 E J
 refine .r 1<|.d<|.s<|.s<|.g<|.ln aa<|.ln E<|.cl (F5 s d h4.ta h5.ta h6.ta h7.ta h1.ta h2.ta h3.ta p1 p0 (w:=o6) (F:=all)) ?_
 rintro q0 o7 ⟨rfl,kV⟩
 replace ⟨h1,h2,h3,h4,h5,h6,h7,E,aa,J⟩:=(se [ac,ab] kV).g10 h1 h2 h3 h4 h5 h6 h7 E aa J
 cases qM:(CW d s)
 ·refine .r 17<|.d<|.ct<|.s<|.g<|.ns 0 137 [] fun g0 mj eR kW ml mp=>?_
  have qN:=AX eR E.lt
  have qO:=AX eR aa.lt
  have mq:=Ae eR J.size
  replace ⟨h1,h2,h3,h4,h5,h6,h7,E,aa,J⟩:=(sn [ac,ab] kW eR).g10 h1 h2 h3 h4 h5 h6 h7 E aa J
  have mr:Own (α:=Stp) mj g0 137 (nin (ge w.heap.size) [g0,ac,ab]) 0 0 []:=Own.Aj ml
  refine .r 1<|.d ?_
  have o8:=mr.sl mq
  replace ⟨h1,h2,h3,h4,h5,h6,h7⟩:=(sd mj [g0,ac,ab] g0).g7 h1 h2 h3 h4 h5 h6 h7
  exact .rt func55 results55 (vS g0 0 0) ⟨(o8.vl (by exact Ty ‹_›) (fun _ _ h=>h.1)),J⟩
 refine .r 3<|.lb aa<|.r 1<|.eq (s.mem.length:Int) 0 (fun mt=>?_) (fun mt=>?_)
 ·refine .r 11<|.d<|.ct<|.s<|.g<|.ns 0 137 [] fun hC mu eS kX mw mz=>?_
  have qP:=AX eS E.lt
  have qQ:=AX eS aa.lt
  have mA:=Ae eS J.size
  replace ⟨h1,h2,h3,h4,h5,h6,h7,E,aa,J⟩:=(sn [ac,ab] kX eS).g10 h1 h2 h3 h4 h5 h6 h7 E aa J
  have mB:Own (α:=Stp) mu hC 137 (nin (ge w.heap.size) [hC,ac,ab]) 0 0 []:=Own.Aj mw
  refine .r 1<|.d ?_
  have o9:=mB.sl mA
  replace ⟨h1,h2,h3,h4,h5,h6,h7⟩:=(sd mu [hC,ac,ab] hC).g7 h1 h2 h3 h4 h5 h6 h7
  exact .rt func55 results55 (vS hC 0 0) ⟨(o9.vl (by exact TC (.inl ‹_›)) (fun _ _ h=>h.1)),J⟩
 refine .r 3<|.lb E<|.r 1<|.eq (d.list.length:Int) 6 (fun mC=>?_) (fun mC=>?_)
 ·refine .r 5<|.d<|.ct<|.s<|.g<|.ns 0 137 [] fun hD mD eT kY mE mF=>?_
  have qR:=AX eT E.lt
  have qS:=AX eT aa.lt
  have mG:=Ae eT J.size
  replace ⟨h1,h2,h3,h4,h5,h6,h7,E,aa,J⟩:=(sn [ac,ab] kY eT).g10 h1 h2 h3 h4 h5 h6 h7 E aa J
  have mH:Own (α:=Stp) mD hD 137 (nin (ge w.heap.size) [hD,ac,ab]) 0 0 []:=Own.Aj mE
  refine .r 1<|.d ?_
  have pa:=mH.sl mG
  replace ⟨h1,h2,h3,h4,h5,h6,h7⟩:=(sd mD [hD,ac,ab] hD).g7 h1 h2 h3 h4 h5 h6 h7
  exact .rt func55 results55 (vS hD 0 0) ⟨(pa.vl (by exact TC (.inr (.inl ‹_›))) (fun _ _ h=>h.1)),J⟩
 refine .r 2<|.ln E<|.cl (FE d h1.ta h2.ta h3.ta (w:=o7) (F:=all)) ?_
 rintro q5 bI ⟨rfl,kZ⟩
 replace ⟨h2,h4,h5,h6,h7,E,aa,J⟩:=(se [ac,ab] kZ).g8 h2 h4 h5 h6 h7 E aa J
 cases qT:(EK d)
 ·refine .r 1<|.d<|.cf<|.sk<|.s<|T.D3 (X:=(Option Addr) × Nat × (Option Addr) × Nat × Nat × Nat × Nat × Nat × Nat) (mtb [] bI.heap.size) 18 (fun (eU,eV,eW,eX,aW,eY,aR,eZ,e7)=>[(30,.agg #[vI 1,vI d.next,.slice eU ((BJ s.mem).ids.length) eV,.slice eW ((BJ s.mem).blocks.length) eX,AH,AH]),(43,.agg #[vI 2,vI 0,AH,AH,vS aW (0+d.list.length+1) eY,vS aR eZ e7])]) (fun (eU,eV,eW,eX,aW,eY,aR,eZ,e7) dA=>Ext bI dA∧bI.heap.size≤aW∧bI.heap.size≤aR∧Nb aR aW∧RepS dA (nin (ge w.heap.size) [aW,aR,ac,ab]) eU ((BJ s.mem).ids.length) eV ((BJ s.mem).ids:List Int)∧RepS dA (nin (ge w.heap.size) [aW,aR,ac,ab]) eW ((BJ s.mem).blocks.length) eX ((BJ s.mem).blocks:List (List Row))∧Own dA aW 3 (nin (ge w.heap.size) [aW,aR,ac,ab]) (0+d.list.length+1) eY ((([]++d.list)++[d.next]):List Int)∧Own dA aR 43 (nin (ge w.heap.size) [aW,aR,ac,ab]) eZ e7 (s.idx.names:List (List Tag))) AA (fun mI dB=>?_) ?_
  ·replace h2:=h2.BO
   replace h4:=h4.BO
   replace h5:=h5.BO
   replace h6:=h6.BO
   replace h7:=h7.BO
   have e8:Gb (ab+1) bI.heap.size:=E.lt
   have hE:Gb (ac+1) bI.heap.size:=aa.lt
   replace ⟨h2,h4,h5,h6,h7,E,aa,J⟩:=(se [ac,ab] dB).g8 h2 h4 h5 h6 h7 E aa J
   have C:=dB
   have W:Chg (mtb [] bI.heap.size) bI mI:=Chg.Cb (Chg.refl (mtb [] bI.heap.size) bI) dB
   refine .r [0]<|.lb 1 E (BL all_nil e8)<|.ln 2 aa (BL all_nil hE)<|.r [6]<|.lb 7 E (BL all_nil e8)<|.r [9]<|.lb 10 E (BL all_nil e8)<|.r [13,14]<|.lb 15 aa (BL all_nil hE)<|GE.many [3,5,11] AA (all_cons ?_ (all_cons ?_ (all_cons ?_ all_nil)))
   ·refine .cl (fun hH co=>CC s (h4.ta.ext co) (h5.ta.ext co) (h6.ta.ext co) (h7.ta.ext co) (StoK.of (Cw p1 ‹_›) (C0 ‹_›).sk).row (StoK.of (Cw p1 ‹_›) (C0 ‹_›).sk).JW.Hg (by have:=p1.nm2; omega) (w:=hH) (F:=all)) ?_
    intro hH co
    replace ⟨h2,h4,h5,h6,h7,E,aa,J,C,W⟩:=(se [ac,ab] co).g10 h2 h4 h5 h6 h7 E aa J C W
    rintro qU qV ⟨⟨_,rfl,⟨hJ,qW,hN,hO,qX,hQ,rfl,af,ag⟩⟩,fa⟩
    have fb:=al2 aa.lt E.lt
    have hV:Gb w.heap.size hH.heap.size:=J.size
    have hkeep_:=fa
    replace ⟨h2,h4,h5,h6,h7,E,aa,J,C,W⟩:=(se [ac,ab] fa).g10 h2 h4 h5 h6 h7 E aa J C W
    refine ⟨Ext.chg hkeep_,?_⟩
    have af:=af.fr fb hV
    have pb:=af.max
    have ag:=ag.fr fb hV
    have pc:=ag.max
    have k5:=af.len
    subst k5
    have k6:=ag.len
    subst k6
    refine .r [4]<|.tw 5 11 ?_ ?_
    ·refine .ns 0 3 [] fun qY fN=>?_
     replace ⟨h2,h4,h5,h6,h7,E,aa,af,ag,J,C,W⟩:=(se [ac,ab] fN).g12 h2 h4 h5 h6 h7 E aa af ag J C W
     intro aN mJ bT hW k7 k8
     have fO:=AX bT E.lt
     have fP:=AX bT aa.lt
     have fQ:=J.cn bT
     have fR:=C.cn bT
     have cC:=W.cn bT
     replace ⟨h2,h4,h5,h6,h7,E,aa,af,ag,J,C,W⟩:=(sn [ac,ab] hW bT).g12 h2 h4 h5 h6 h7 E aa af ag J C W
     have aH:Own (α:=Int) mJ aN 3 (nin (ge w.heap.size) [aN,ac,ab]) 0 0 []:=Own.Aj k7
     refine .tw 8 11 ?_ ?_
     ·refine GE.append (T:=34) (ty:=34) (args:=[vS aN 0 0,.slice a2 d.list.length c2]) AA fun pd dC=>?_
      replace ⟨h2,h4,h5,h6,h7,E,aa,af,ag,aH,J,C⟩:=(se [aN,ac,ab] dC).g12 h2 h4 h5 h6 h7 E aa af ag aH J C
      replace W:=(se [aN,ac,ab] dC).g1 W
      obtain ⟨aS,k9,pe,gJ,aE,aT,dD,ir⟩:=Own.BG (P:=Tryz.prog) (T:=34) (ty:=34) BS aH AA h2 (fun b h e=>h.2 (e▸AI)) (by have:=p0.nl; omega)
      refine ⟨_,_,gJ,Chg.toS dD (Cov.toS cC),?_⟩
      have mK:=Ag aT fO E.lt
      have mL:=Ag aT fP aa.lt
      have mM:=Aw aT fQ J.size
      have iu:=Aw aT fR C.size
      have iw:=Aw aT cC W.size
      replace ⟨h2,h4,h5,h6,h7,E,aa,af,ag,J,C,W⟩:=(sa [aN,ac,ab] dD aT).g12 h2 h4 h5 h6 h7 E aa af ag J C W
      replace aE:=aE.rn aN
      have mN:=aE.len
      refine .go 11<|.ns 1 3 [vI d.next] fun pf dE=>?_
      replace ⟨h2,h4,h5,h6,h7,E,aa,af,ag,aE,J,C⟩:=(se [aS,ac,ab] dE).g12 h2 h4 h5 h6 h7 E aa af ag aE J C
      replace W:=(se [aS,ac,ab] dE).g1 W
      intro fc pg bZ dF dG iy
      have iz:=AX bZ E.lt
      have iA:=AX bZ aa.lt
      have fS:=AX bZ aE.lt
      have iB:=Ae bZ J.size
      replace ⟨h2,h4,h5,h6,h7,E,aa,af,ag,aE,J,C⟩:=(se [aS,ac,ab] dF).g12 h2 h4 h5 h6 h7 E aa af ag aE J C
      replace W:=(se [aS,ac,ab] dF).g1 W
      refine .go 12<|GE.append (T:=34) (ty:=34) (args:=[vS aS (0+d.list.length) k9,vS fc 1 1]) AA fun ph dH=>?_
      replace ⟨h2,h4,h5,h6,h7,E,aa,af,ag,aE,dG,J⟩:=(se [aS,ac,ab] dH).g12 h2 h4 h5 h6 h7 E aa af ag aE dG J
      replace ⟨C,W⟩:=(se [aS,ac,ab] dH).g2 C W
      have fd:nin (ge w.heap.size) [aS,ac,ab] fc∧fc≠aS:=BR iB (all_cons fS (all_cons iA (all_cons iz all_nil))) fS
      obtain ⟨bc,lc,pi,gK,av,dq,dI,iC⟩:=aE.Ax (P:=Tryz.prog) (T:=34) (ty:=34) (y:=d.next) AA dG rfl fd (by have:=p0.nl; omega)
      refine ⟨_,_,gK,Chg.toS dI (Cov.toS iw),?_⟩
      have iD:=Aw dq iu C.size
      replace ⟨h2,h4,h5,h6,h7,E,aa,af,ag,J,C,W⟩:=(sa [aS,ac,ab] dI dq).g12 h2 h4 h5 h6 h7 E aa af ag J C W
      replace av:=av.rn aS
      refine .go 16<|.cl (fun fe cD=>Ak s.idx.names (h4.ta.ext cD) (by have:=p1.ix.g.len; omega) (by (intro n hn; have:=(p1.ix.g.sz n hn).1; omega)) (w:=fe) (F:=all)) ?_
      intro fe cD
      replace ⟨h2,h4,h5,h6,h7,E,aa,af,ag,av,J,C⟩:=(se [bc,ac,ab] cD).g12 h2 h4 h5 h6 h7 E aa af ag av J C
      replace W:=(se [bc,ac,ab] cD).g1 W
      rintro pj pk ⟨⟨cp,ld,lf,rfl,bm,b0⟩,cE⟩
      have fT:=al3 av.lt aa.lt E.lt
      have iE:Gb w.heap.size fe.heap.size:=J.size
      have hkeep_:=cE
      have iF:=Ah b0 av.lt
      have iG:Cov nil bI cp:=BT b0 C.size
      replace ⟨h2,h4,h5,h6,h7,E,aa,af,ag,av,J,C⟩:=(sz [bc,ac,ab] cE b0).g12 h2 h4 h5 h6 h7 E aa af ag av J C
      replace W:=(sz [bc,ac,ab] cE b0).g1 W
      refine ⟨Ext.chg hkeep_,?_⟩
      replace bm:=Own.take (s0:=w.heap.size) (M:=[bc,ac,ab]) bm fT iE
      refine .r [17]<|.d fun ia dJ=>?_
      replace ⟨h2,h4,h5,h6,h7,E,aa,af,ag,av,bm,J⟩:=(se [cp,bc,ac,ab] dJ).g12 h2 h4 h5 h6 h7 E aa af ag av bm J
      replace ⟨C,W⟩:=(se [cp,bc,ac,ab] dJ).g2 C W
      replace h2:=h2.Aa
      replace h4:=h4.Aa
      replace h5:=h5.Aa
      replace h6:=h6.Aa
      replace h7:=h7.Aa
      have cF:Mv [cp,bc,ac,ab] [bc,cp,ac,ab] ia ia:=Mv.less (all_cons AJ (all_cons AI (all_cons AK (all_cons AL all_nil))))
      exact ⟨(hJ,hN,hO,hQ,bc,lc,cp,ld,lf),⟨AA,AA,trivial⟩,⟨C,(Ad iD),(Ad iG),iF,(RepS.mv af cF),(RepS.mv ag cF),(Own.mv av cF (Chg.refl nil _) (fun h=>h)),(Own.mv bm cF (Chg.refl nil _) (fun h=>h))⟩⟩
     refine .ns 1 3 [vI d.next] fun pl dK=>?_
     replace ⟨h2,h4,h5,h6,h7,E,aa,af,ag,aH,J,C⟩:=(se [aN,ac,ab] dK).g12 h2 h4 h5 h6 h7 E aa af ag aH J C
     replace W:=(se [aN,ac,ab] dK).g1 W
     intro ff pm b6 dL aX iH
     have iI:=AX b6 E.lt
     have iJ:=AX b6 aa.lt
     have iK:=AX b6 aH.lt
     have iL:=Ae b6 J.size
     replace ⟨h2,h4,h5,h6,h7,E,aa,af,ag,aH,J,C⟩:=(se [aN,ac,ab] dL).g12 h2 h4 h5 h6 h7 E aa af ag aH J C
     replace W:=(se [aN,ac,ab] dL).g1 W
     refine .go 8<|GE.append (T:=34) (ty:=34) (args:=[vS aN 0 0,.slice a2 d.list.length c2]) AA fun pn dM=>?_
     replace ⟨h2,h4,h5,h6,h7,E,aa,af,ag,aH,aX,J⟩:=(se [aN,ac,ab] dM).g12 h2 h4 h5 h6 h7 E aa af ag aH aX J
     replace ⟨C,W⟩:=(se [aN,ac,ab] dM).g2 C W
     obtain ⟨bU,li,po,gL,bn,aI,cG,iM⟩:=Own.BG (P:=Tryz.prog) (T:=34) (ty:=34) BS aH AA h2 (fun b h e=>h.2 (e▸AI)) (by have:=p0.nl; omega)
     refine ⟨_,_,gL,Chg.toS cG (Cov.toS cC),?_⟩
     have mT:=Ag aI fO E.lt
     have mU:=Ag aI fP aa.lt
     have fU:=Ag aI (Nb.symm iK) aX.lt
     have mV:=Aw aI fQ J.size
     have iN:=Aw aI fR C.size
     have iO:=Aw aI cC W.size
     replace ⟨h2,h4,h5,h6,h7,E,aa,af,ag,aX,J,C⟩:=(sa [aN,ac,ab] cG aI).g12 h2 h4 h5 h6 h7 E aa af ag aX J C
     replace W:=(sa [aN,ac,ab] cG aI).g1 W
     replace bn:=bn.rn aN
     have mW:=bn.len
     refine .go 12<|GE.append (T:=34) (ty:=34) (args:=[vS bU (0+d.list.length) li,vS ff 1 1]) AA fun pp dN=>?_
     replace ⟨h2,h4,h5,h6,h7,E,aa,af,ag,bn,aX,J⟩:=(se [bU,ac,ab] dN).g12 h2 h4 h5 h6 h7 E aa af ag bn aX J
     replace ⟨C,W⟩:=(se [bU,ac,ab] dN).g2 C W
     have fg:nin (ge w.heap.size) [bU,ac,ab] ff∧ff≠bU:=BR iL (all_cons (Nb.symm fU) (all_cons iJ (all_cons iI all_nil))) (Nb.symm fU)
     obtain ⟨bd,lj,pq,gM,aw,dr,dO,iP⟩:=bn.Ax (P:=Tryz.prog) (T:=34) (ty:=34) (y:=d.next) AA aX rfl fg (by have:=p0.nl; omega)
     refine ⟨_,_,gM,Chg.toS dO (Cov.toS iO),?_⟩
     have iQ:=Aw dr iN C.size
     replace ⟨h2,h4,h5,h6,h7,E,aa,af,ag,J,C,W⟩:=(sa [bU,ac,ab] dO dr).g12 h2 h4 h5 h6 h7 E aa af ag J C W
     replace aw:=aw.rn bU
     refine .go 16<|.cl (fun fh cH=>Ak s.idx.names (h4.ta.ext cH) (by have:=p1.ix.g.len; omega) (by (intro n hn; have:=(p1.ix.g.sz n hn).1; omega)) (w:=fh) (F:=all)) ?_
     intro fh cH
     replace ⟨h2,h4,h5,h6,h7,E,aa,af,ag,aw,J,C⟩:=(se [bd,ac,ab] cH).g12 h2 h4 h5 h6 h7 E aa af ag aw J C
     replace W:=(se [bd,ac,ab] cH).g1 W
     rintro pr pu ⟨⟨cq,lk,ll,rfl,bo,b7⟩,cI⟩
     have fV:=al3 aw.lt aa.lt E.lt
     have iR:Gb w.heap.size fh.heap.size:=J.size
     have hkeep_:=cI
     have iS:=Ah b7 aw.lt
     have iT:Cov nil bI cq:=BT b7 C.size
     replace ⟨h2,h4,h5,h6,h7,E,aa,af,ag,aw,J,C⟩:=(sz [bd,ac,ab] cI b7).g12 h2 h4 h5 h6 h7 E aa af ag aw J C
     replace W:=(sz [bd,ac,ab] cI b7).g1 W
     refine ⟨Ext.chg hkeep_,?_⟩
     replace bo:=Own.take (s0:=w.heap.size) (M:=[bd,ac,ab]) bo fV iR
     refine .r [17]<|.d fun ic dP=>?_
     replace ⟨h2,h4,h5,h6,h7,E,aa,af,ag,aw,bo,J⟩:=(se [cq,bd,ac,ab] dP).g12 h2 h4 h5 h6 h7 E aa af ag aw bo J
     replace ⟨C,W⟩:=(se [cq,bd,ac,ab] dP).g2 C W
     replace h2:=h2.Aa
     replace h4:=h4.Aa
     replace h5:=h5.Aa
     replace h6:=h6.Aa
     replace h7:=h7.Aa
     have cJ:Mv [cq,bd,ac,ab] [bd,cq,ac,ab] ic ic:=Mv.less (all_cons AJ (all_cons AI (all_cons AK (all_cons AL all_nil))))
     exact ⟨(hJ,hN,hO,hQ,bd,lj,cq,lk,ll),⟨AA,AA,trivial⟩,⟨C,(Ad iQ),(Ad iT),iS,(RepS.mv af cJ),(RepS.mv ag cJ),(Own.mv aw cJ (Chg.refl nil _) (fun h=>h)),(Own.mv bo cJ (Chg.refl nil _) (fun h=>h))⟩⟩
    refine .ns 1 3 [vI d.next] fun pw fW=>?_
    replace ⟨h2,h4,h5,h6,h7,E,aa,af,ag,J,C,W⟩:=(se [ac,ab] fW).g12 h2 h4 h5 h6 h7 E aa af ag J C W
    intro fi pz cK fX ax iU
    have iV:=AX cK E.lt
    have iW:=AX cK aa.lt
    have iX:=Ae cK J.size
    replace ⟨h2,h4,h5,h6,h7,E,aa,af,ag,J,C,W⟩:=(se [ac,ab] fX).g12 h2 h4 h5 h6 h7 E aa af ag J C W
    refine .go 5<|.ns 0 3 [] fun pA dQ=>?_
    replace ⟨h2,h4,h5,h6,h7,E,aa,af,ag,ax,J,C⟩:=(se [ac,ab] dQ).g12 h2 h4 h5 h6 h7 E aa af ag ax J C
    replace W:=(se [ac,ab] dQ).g1 W
    intro bJ lm aP dR iY iZ
    have ja:=AX aP E.lt
    have jb:=AX aP aa.lt
    have jc:=AX aP ax.lt
    have jd:=J.cn aP
    have je:=C.cn aP
    have fY:=W.cn aP
    replace ⟨h2,h4,h5,h6,h7,E,aa,af,ag,ax,J,C⟩:=(sn [ac,ab] dR aP).g12 h2 h4 h5 h6 h7 E aa af ag ax J C
    replace W:=(sn [ac,ab] dR aP).g1 W
    have dS:Own (α:=Int) lm bJ 3 (nin (ge w.heap.size) [bJ,ac,ab]) 0 0 []:=Own.Aj iY
    refine .go 8<|GE.append (T:=34) (ty:=34) (args:=[vS bJ 0 0,.slice a2 d.list.length c2]) AA fun pB dT=>?_
    replace ⟨h2,h4,h5,h6,h7,E,aa,af,ag,ax,dS,J⟩:=(se [bJ,ac,ab] dT).g12 h2 h4 h5 h6 h7 E aa af ag ax dS J
    replace ⟨C,W⟩:=(se [bJ,ac,ab] dT).g2 C W
    obtain ⟨bV,lp,pC,gN,bq,aJ,cL,jf⟩:=Own.BG (P:=Tryz.prog) (T:=34) (ty:=34) BS dS AA h2 (fun b h e=>h.2 (e▸AI)) (by have:=p0.nl; omega)
    refine ⟨_,_,gN,Chg.toS cL (Cov.toS fY),?_⟩
    have m6:=Ag aJ ja E.lt
    have m7:=Ag aJ jb aa.lt
    have fZ:=Ag aJ jc ax.lt
    have m8:=Aw aJ jd J.size
    have jg:=Aw aJ je C.size
    have jh:=Aw aJ fY W.size
    replace ⟨h2,h4,h5,h6,h7,E,aa,af,ag,ax,J,C⟩:=(sa [bJ,ac,ab] cL aJ).g12 h2 h4 h5 h6 h7 E aa af ag ax J C
    replace W:=(sa [bJ,ac,ab] cL aJ).g1 W
    replace bq:=bq.rn bJ
    have m9:=bq.len
    refine .go 12<|GE.append (T:=34) (ty:=34) (args:=[vS bV (0+d.list.length) lp,vS fi 1 1]) AA fun pD dU=>?_
    replace ⟨h2,h4,h5,h6,h7,E,aa,af,ag,ax,bq,J⟩:=(se [bV,ac,ab] dU).g12 h2 h4 h5 h6 h7 E aa af ag ax bq J
    replace ⟨C,W⟩:=(se [bV,ac,ab] dU).g2 C W
    have fj:nin (ge w.heap.size) [bV,ac,ab] fi∧fi≠bV:=BR iX (all_cons (Nb.symm fZ) (all_cons iW (all_cons iV all_nil))) (Nb.symm fZ)
    obtain ⟨bg,lq,pE,gO,ay,dt,dV,ji⟩:=bq.Ax (P:=Tryz.prog) (T:=34) (ty:=34) (y:=d.next) AA ax rfl fj (by have:=p0.nl; omega)
    refine ⟨_,_,gO,Chg.toS dV (Cov.toS jh),?_⟩
    have jj:=Aw dt jg C.size
    replace ⟨h2,h4,h5,h6,h7,E,aa,af,ag,J,C,W⟩:=(sa [bV,ac,ab] dV dt).g12 h2 h4 h5 h6 h7 E aa af ag J C W
    replace ay:=ay.rn bV
    refine .go 16<|.cl (fun fk cM=>Ak s.idx.names (h4.ta.ext cM) (by have:=p1.ix.g.len; omega) (by (intro n hn; have:=(p1.ix.g.sz n hn).1; omega)) (w:=fk) (F:=all)) ?_
    intro fk cM
    replace ⟨h2,h4,h5,h6,h7,E,aa,af,ag,ay,J,C⟩:=(se [bg,ac,ab] cM).g12 h2 h4 h5 h6 h7 E aa af ag ay J C
    replace W:=(se [bg,ac,ab] cM).g1 W
    rintro pF pG ⟨⟨cr,ls,lu,rfl,br,b8⟩,cN⟩
    have f0:=al3 ay.lt aa.lt E.lt
    have jk:Gb w.heap.size fk.heap.size:=J.size
    have hkeep_:=cN
    have jl:=Ah b8 ay.lt
    have jm:Cov nil bI cr:=BT b8 C.size
    replace ⟨h2,h4,h5,h6,h7,E,aa,af,ag,ay,J,C⟩:=(sz [bg,ac,ab] cN b8).g12 h2 h4 h5 h6 h7 E aa af ag ay J C
    replace W:=(sz [bg,ac,ab] cN b8).g1 W
    refine ⟨Ext.chg hkeep_,?_⟩
    replace br:=Own.take (s0:=w.heap.size) (M:=[bg,ac,ab]) br f0 jk
    refine .r [17]<|.d fun ie dW=>?_
    replace ⟨h2,h4,h5,h6,h7,E,aa,af,ag,ay,br,J⟩:=(se [cr,bg,ac,ab] dW).g12 h2 h4 h5 h6 h7 E aa af ag ay br J
    replace ⟨C,W⟩:=(se [cr,bg,ac,ab] dW).g2 C W
    replace h2:=h2.Aa
    replace h4:=h4.Aa
    replace h5:=h5.Aa
    replace h6:=h6.Aa
    replace h7:=h7.Aa
    have cO:Mv [cr,bg,ac,ab] [bg,cr,ac,ab] ie ie:=Mv.less (all_cons AJ (all_cons AI (all_cons AK (all_cons AL all_nil))))
    exact ⟨(hJ,hN,hO,hQ,bg,lq,cr,ls,lu),⟨AA,AA,trivial⟩,⟨C,(Ad jj),(Ad jm),jl,(RepS.mv af cO),(RepS.mv ag cO),(Own.mv ay cO (Chg.refl nil _) (fun h=>h)),(Own.mv br cO (Chg.refl nil _) (fun h=>h))⟩⟩
   ·refine .ns 0 3 [] fun pH f5=>?_
    replace ⟨h2,h4,h5,h6,h7,E,aa,J,C,W⟩:=(se [ac,ab] f5).g10 h2 h4 h5 h6 h7 E aa J C W
    intro ak lv bt f6 jn jo
    have dX:=AX bt E.lt
    have dY:=AX bt aa.lt
    have dZ:=J.cn bt
    have d0:=C.cn bt
    have bO:=W.cn bt
    replace ⟨h2,h4,h5,h6,h7,E,aa,J,C,W⟩:=(sn [ac,ab] f6 bt).g10 h2 h4 h5 h6 h7 E aa J C W
    have aj:Own (α:=Int) lv ak 3 (nin (ge w.heap.size) [ak,ac,ab]) 0 0 []:=Own.Aj jn
    refine .tw 3 11 ?_ ?_
    ·refine .cl (fun fm bP=>CC s (h4.ta.ext bP) (h5.ta.ext bP) (h6.ta.ext bP) (h7.ta.ext bP) (StoK.of (Cw p1 ‹_›) (C0 ‹_›).sk).row (StoK.of (Cw p1 ‹_›) (C0 ‹_›).sk).JW.Hg (by have:=p1.nm2; omega) (w:=fm) (F:=all)) ?_
     intro fm bP
     replace ⟨h2,h4,h5,h6,h7,E,aa,aj,J,C,W⟩:=(se [ak,ac,ab] bP).g11 h2 h4 h5 h6 h7 E aa aj J C W
     rintro pI pJ ⟨⟨_,rfl,⟨ig,pK,ii,ij,pL,ik,rfl,ah,ai⟩⟩,d3⟩
     have d4:=al3 aj.lt aa.lt E.lt
     have f7:Gb w.heap.size fm.heap.size:=J.size
     have hkeep_:=d3
     replace ⟨h2,h4,h5,h6,h7,E,aa,aj,J,C,W⟩:=(se [ak,ac,ab] d3).g11 h2 h4 h5 h6 h7 E aa aj J C W
     refine ⟨Ext.chg hkeep_,?_⟩
     have ah:=ah.fr d4 f7
     have nq:=ah.max
     have ai:=ai.fr d4 f7
     have nt:=ai.max
     have jp:=ah.len
     subst jp
     have jq:=ai.len
     subst jq
     refine .r [4]<|.tw 8 11 ?_ ?_
     ·refine GE.append (T:=34) (ty:=34) (args:=[vS ak 0 0,.slice a2 d.list.length c2]) AA fun pM d5=>?_
      replace ⟨h2,h4,h5,h6,h7,E,aa,aj,ah,ai,J,C⟩:=(se [ak,ac,ab] d5).g12 h2 h4 h5 h6 h7 E aa aj ah ai J C
      replace W:=(se [ak,ac,ab] d5).g1 W
      obtain ⟨aU,lw,pN,gP,aF,aV,d6,jr⟩:=Own.BG (P:=Tryz.prog) (T:=34) (ty:=34) BS aj AA h2 (fun b h e=>h.2 (e▸AI)) (by have:=p0.nl; omega)
      refine ⟨_,_,gP,Chg.toS d6 (Cov.toS bO),?_⟩
      have nu:=Ag aV dX E.lt
      have nv:=Ag aV dY aa.lt
      have nz:=Aw aV dZ J.size
      have js:=Aw aV d0 C.size
      have jt:=Aw aV bO W.size
      replace ⟨h2,h4,h5,h6,h7,E,aa,ah,ai,J,C,W⟩:=(sa [ak,ac,ab] d6 aV).g12 h2 h4 h5 h6 h7 E aa ah ai J C W
      replace aF:=aF.rn ak
      have nA:=aF.len
      refine .go 11<|.ns 1 3 [vI d.next] fun pO d7=>?_
      replace ⟨h2,h4,h5,h6,h7,E,aa,aF,ah,ai,J,C⟩:=(se [aU,ac,ab] d7).g12 h2 h4 h5 h6 h7 E aa aF ah ai J C
      replace W:=(se [aU,ac,ab] d7).g1 W
      intro fp pP b9 d8 d9 ju
      have jv:=AX b9 E.lt
      have jw:=AX b9 aa.lt
      have f8:=AX b9 aF.lt
      have jx:=Ae b9 J.size
      replace ⟨h2,h4,h5,h6,h7,E,aa,aF,ah,ai,J,C⟩:=(se [aU,ac,ab] d8).g12 h2 h4 h5 h6 h7 E aa aF ah ai J C
      replace W:=(se [aU,ac,ab] d8).g1 W
      refine .go 12<|GE.append (T:=34) (ty:=34) (args:=[vS aU (0+d.list.length) lw,vS fp 1 1]) AA fun pQ ec=>?_
      replace ⟨h2,h4,h5,h6,h7,E,aa,aF,ah,ai,d9,J⟩:=(se [aU,ac,ab] ec).g12 h2 h4 h5 h6 h7 E aa aF ah ai d9 J
      replace ⟨C,W⟩:=(se [aU,ac,ab] ec).g2 C W
      have fq:nin (ge w.heap.size) [aU,ac,ab] fp∧fp≠aU:=BR jx (all_cons f8 (all_cons jw (all_cons jv all_nil))) f8
      obtain ⟨bh,ly,pR,gQ,az,du,ed,jy⟩:=aF.Ax (P:=Tryz.prog) (T:=34) (ty:=34) (y:=d.next) AA d9 rfl fq (by have:=p0.nl; omega)
      refine ⟨_,_,gQ,Chg.toS ed (Cov.toS jt),?_⟩
      have jz:=Aw du js C.size
      replace ⟨h2,h4,h5,h6,h7,E,aa,ah,ai,J,C,W⟩:=(sa [aU,ac,ab] ed du).g12 h2 h4 h5 h6 h7 E aa ah ai J C W
      replace az:=az.rn aU
      refine .go 16<|.cl (fun ft cP=>Ak s.idx.names (h4.ta.ext cP) (by have:=p1.ix.g.len; omega) (by (intro n hn; have:=(p1.ix.g.sz n hn).1; omega)) (w:=ft) (F:=all)) ?_
      intro ft cP
      replace ⟨h2,h4,h5,h6,h7,E,aa,az,ah,ai,J,C⟩:=(se [bh,ac,ab] cP).g12 h2 h4 h5 h6 h7 E aa az ah ai J C
      replace W:=(se [bh,ac,ab] cP).g1 W
      rintro pS pT ⟨⟨cu,lz,lA,rfl,bu,cd⟩,cQ⟩
      have f9:=al3 az.lt aa.lt E.lt
      have jA:Gb w.heap.size ft.heap.size:=J.size
      have hkeep_:=cQ
      have jB:=Ah cd az.lt
      have jC:Cov nil bI cu:=BT cd C.size
      replace ⟨h2,h4,h5,h6,h7,E,aa,az,ah,ai,J,C⟩:=(sz [bh,ac,ab] cQ cd).g12 h2 h4 h5 h6 h7 E aa az ah ai J C
      replace W:=(sz [bh,ac,ab] cQ cd).g1 W
      refine ⟨Ext.chg hkeep_,?_⟩
      replace bu:=Own.take (s0:=w.heap.size) (M:=[bh,ac,ab]) bu f9 jA
      refine .r [17]<|.d fun il ee=>?_
      replace ⟨h2,h4,h5,h6,h7,E,aa,az,ah,ai,bu,J⟩:=(se [cu,bh,ac,ab] ee).g12 h2 h4 h5 h6 h7 E aa az ah ai bu J
      replace ⟨C,W⟩:=(se [cu,bh,ac,ab] ee).g2 C W
      replace h2:=h2.Aa
      replace h4:=h4.Aa
      replace h5:=h5.Aa
      replace h6:=h6.Aa
      replace h7:=h7.Aa
      have cR:Mv [cu,bh,ac,ab] [bh,cu,ac,ab] il il:=Mv.less (all_cons AJ (all_cons AI (all_cons AK (all_cons AL all_nil))))
      exact ⟨(ig,ii,ij,ik,bh,ly,cu,lz,lA),⟨AA,AA,trivial⟩,⟨C,(Ad jz),(Ad jC),jB,(RepS.mv ah cR),(RepS.mv ai cR),(Own.mv az cR (Chg.refl nil _) (fun h=>h)),(Own.mv bu cR (Chg.refl nil _) (fun h=>h))⟩⟩
     refine .ns 1 3 [vI d.next] fun pU ef=>?_
     replace ⟨h2,h4,h5,h6,h7,E,aa,aj,ah,ai,J,C⟩:=(se [ak,ac,ab] ef).g12 h2 h4 h5 h6 h7 E aa aj ah ai J C
     replace W:=(se [ak,ac,ab] ef).g1 W
     intro fu pV ce eg aY jD
     have jE:=AX ce E.lt
     have jF:=AX ce aa.lt
     have jG:=AX ce aj.lt
     have jH:=Ae ce J.size
     replace ⟨h2,h4,h5,h6,h7,E,aa,aj,ah,ai,J,C⟩:=(se [ak,ac,ab] eg).g12 h2 h4 h5 h6 h7 E aa aj ah ai J C
     replace W:=(se [ak,ac,ab] eg).g1 W
     refine .go 8<|GE.append (T:=34) (ty:=34) (args:=[vS ak 0 0,.slice a2 d.list.length c2]) AA fun pW eh=>?_
     replace ⟨h2,h4,h5,h6,h7,E,aa,aj,ah,ai,aY,J⟩:=(se [ak,ac,ab] eh).g12 h2 h4 h5 h6 h7 E aa aj ah ai aY J
     replace ⟨C,W⟩:=(se [ak,ac,ab] eh).g2 C W
     obtain ⟨bW,lB,pX,gR,bv,aK,cS,jI⟩:=Own.BG (P:=Tryz.prog) (T:=34) (ty:=34) BS aj AA h2 (fun b h e=>h.2 (e▸AI)) (by have:=p0.nl; omega)
     refine ⟨_,_,gR,Chg.toS cS (Cov.toS bO),?_⟩
     have nG:=Ag aK dX E.lt
     have nH:=Ag aK dY aa.lt
     have ga:=Ag aK (Nb.symm jG) aY.lt
     have nI:=Aw aK dZ J.size
     have jJ:=Aw aK d0 C.size
     have jK:=Aw aK bO W.size
     replace ⟨h2,h4,h5,h6,h7,E,aa,ah,ai,aY,J,C⟩:=(sa [ak,ac,ab] cS aK).g12 h2 h4 h5 h6 h7 E aa ah ai aY J C
     replace W:=(sa [ak,ac,ab] cS aK).g1 W
     replace bv:=bv.rn ak
     have nJ:=bv.len
     refine .go 12<|GE.append (T:=34) (ty:=34) (args:=[vS bW (0+d.list.length) lB,vS fu 1 1]) AA fun pY ej=>?_
     replace ⟨h2,h4,h5,h6,h7,E,aa,bv,ah,ai,aY,J⟩:=(se [bW,ac,ab] ej).g12 h2 h4 h5 h6 h7 E aa bv ah ai aY J
     replace ⟨C,W⟩:=(se [bW,ac,ab] ej).g2 C W
     have fv:nin (ge w.heap.size) [bW,ac,ab] fu∧fu≠bW:=BR jH (all_cons (Nb.symm ga) (all_cons jF (all_cons jE all_nil))) (Nb.symm ga)
     obtain ⟨bi,lC,pZ,gS,aA,dv,ek,jL⟩:=bv.Ax (P:=Tryz.prog) (T:=34) (ty:=34) (y:=d.next) AA aY rfl fv (by have:=p0.nl; omega)
     refine ⟨_,_,gS,Chg.toS ek (Cov.toS jK),?_⟩
     have jM:=Aw dv jJ C.size
     replace ⟨h2,h4,h5,h6,h7,E,aa,ah,ai,J,C,W⟩:=(sa [bW,ac,ab] ek dv).g12 h2 h4 h5 h6 h7 E aa ah ai J C W
     replace aA:=aA.rn bW
     refine .go 16<|.cl (fun fw cT=>Ak s.idx.names (h4.ta.ext cT) (by have:=p1.ix.g.len; omega) (by (intro n hn; have:=(p1.ix.g.sz n hn).1; omega)) (w:=fw) (F:=all)) ?_
     intro fw cT
     replace ⟨h2,h4,h5,h6,h7,E,aa,aA,ah,ai,J,C⟩:=(se [bi,ac,ab] cT).g12 h2 h4 h5 h6 h7 E aa aA ah ai J C
     replace W:=(se [bi,ac,ab] cT).g1 W
     rintro p2 p3 ⟨⟨cw,lD,lE,rfl,bw,cg⟩,cU⟩
     have gb:=al3 aA.lt aa.lt E.lt
     have jN:Gb w.heap.size fw.heap.size:=J.size
     have hkeep_:=cU
     have jO:=Ah cg aA.lt
     have jP:Cov nil bI cw:=BT cg C.size
     replace ⟨h2,h4,h5,h6,h7,E,aa,aA,ah,ai,J,C⟩:=(sz [bi,ac,ab] cU cg).g12 h2 h4 h5 h6 h7 E aa aA ah ai J C
     replace W:=(sz [bi,ac,ab] cU cg).g1 W
     refine ⟨Ext.chg hkeep_,?_⟩
     replace bw:=Own.take (s0:=w.heap.size) (M:=[bi,ac,ab]) bw gb jN
     refine .r [17]<|.d fun im en=>?_
     replace ⟨h2,h4,h5,h6,h7,E,aa,aA,ah,ai,bw,J⟩:=(se [cw,bi,ac,ab] en).g12 h2 h4 h5 h6 h7 E aa aA ah ai bw J
     replace ⟨C,W⟩:=(se [cw,bi,ac,ab] en).g2 C W
     replace h2:=h2.Aa
     replace h4:=h4.Aa
     replace h5:=h5.Aa
     replace h6:=h6.Aa
     replace h7:=h7.Aa
     have cV:Mv [cw,bi,ac,ab] [bi,cw,ac,ab] im im:=Mv.less (all_cons AJ (all_cons AI (all_cons AK (all_cons AL all_nil))))
     exact ⟨(ig,ii,ij,ik,bi,lC,cw,lD,lE),⟨AA,AA,trivial⟩,⟨C,(Ad jM),(Ad jP),jO,(RepS.mv ah cV),(RepS.mv ai cV),(Own.mv aA cV (Chg.refl nil _) (fun h=>h)),(Own.mv bw cV (Chg.refl nil _) (fun h=>h))⟩⟩
    refine .ns 1 3 [vI d.next] fun p4 gf=>?_
    replace ⟨h2,h4,h5,h6,h7,E,aa,aj,J,C,W⟩:=(se [ak,ac,ab] gf).g11 h2 h4 h5 h6 h7 E aa aj J C W
    intro fA p5 ci gh aG jQ
    have jR:=AX ci E.lt
    have jS:=AX ci aa.lt
    have jT:=AX ci aj.lt
    have jU:=Ae ci J.size
    replace ⟨h2,h4,h5,h6,h7,E,aa,aj,J,C,W⟩:=(se [ak,ac,ab] gh).g11 h2 h4 h5 h6 h7 E aa aj J C W
    refine .go 3<|.cl (fun fB bQ=>CC s (h4.ta.ext bQ) (h5.ta.ext bQ) (h6.ta.ext bQ) (h7.ta.ext bQ) (StoK.of (Cw p1 ‹_›) (C0 ‹_›).sk).row (StoK.of (Cw p1 ‹_›) (C0 ‹_›).sk).JW.Hg (by have:=p1.nm2; omega) (w:=fB) (F:=all)) ?_
    intro fB bQ
    replace ⟨h2,h4,h5,h6,h7,E,aa,aj,aG,J,C,W⟩:=(se [ak,ac,ab] bQ).g12 h2 h4 h5 h6 h7 E aa aj aG J C W
    rintro p6 p7 ⟨⟨_,rfl,⟨lF,p8,lG,lH,p9,lI,rfl,ao,aq⟩⟩,et⟩
    have ey:=al3 aj.lt aa.lt E.lt
    have gi:Gb w.heap.size fB.heap.size:=J.size
    have hkeep_:=et
    replace ⟨h2,h4,h5,h6,h7,E,aa,aj,aG,J,C,W⟩:=(se [ak,ac,ab] et).g12 h2 h4 h5 h6 h7 E aa aj aG J C W
    refine ⟨Ext.chg hkeep_,?_⟩
    have ao:=ao.fr ey gi
    have nP:=ao.max
    have aq:=aq.fr ey gi
    have nQ:=aq.max
    have jV:=ao.len
    subst jV
    have jW:=aq.len
    subst jW
    refine .r [4]<|.go 8<|GE.append (T:=34) (ty:=34) (args:=[vS ak 0 0,.slice a2 d.list.length c2]) AA fun qa ez=>?_
    replace ⟨h2,h4,h5,h6,h7,E,aa,aj,aG,ao,aq,J⟩:=(se [ak,ac,ab] ez).g12 h2 h4 h5 h6 h7 E aa aj aG ao aq J
    replace ⟨C,W⟩:=(se [ak,ac,ab] ez).g2 C W
    obtain ⟨bX,lJ,qb,gT,bz,aL,cW,jX⟩:=Own.BG (P:=Tryz.prog) (T:=34) (ty:=34) BS aj AA h2 (fun b h e=>h.2 (e▸AI)) (by have:=p0.nl; omega)
    refine ⟨_,_,gT,Chg.toS cW (Cov.toS bO),?_⟩
    have nR:=Ag aL dX E.lt
    have nT:=Ag aL dY aa.lt
    have gj:=Ag aL (Nb.symm jT) aG.lt
    have nU:=Aw aL dZ J.size
    have jY:=Aw aL d0 C.size
    have jZ:=Aw aL bO W.size
    replace ⟨h2,h4,h5,h6,h7,E,aa,aG,ao,aq,J,C⟩:=(sa [ak,ac,ab] cW aL).g12 h2 h4 h5 h6 h7 E aa aG ao aq J C
    replace W:=(sa [ak,ac,ab] cW aL).g1 W
    replace bz:=bz.rn ak
    have nV:=bz.len
    refine .go 12<|GE.append (T:=34) (ty:=34) (args:=[vS bX (0+d.list.length) lJ,vS fA 1 1]) AA fun qc eA=>?_
    replace ⟨h2,h4,h5,h6,h7,E,aa,bz,aG,ao,aq,J⟩:=(se [bX,ac,ab] eA).g12 h2 h4 h5 h6 h7 E aa bz aG ao aq J
    replace ⟨C,W⟩:=(se [bX,ac,ab] eA).g2 C W
    have fC:nin (ge w.heap.size) [bX,ac,ab] fA∧fA≠bX:=BR jU (all_cons (Nb.symm gj) (all_cons jS (all_cons jR all_nil))) (Nb.symm gj)
    obtain ⟨bj,lK,qd,gU,aB,dw,eB,j0⟩:=bz.Ax (P:=Tryz.prog) (T:=34) (ty:=34) (y:=d.next) AA aG rfl fC (by have:=p0.nl; omega)
    refine ⟨_,_,gU,Chg.toS eB (Cov.toS jZ),?_⟩
    have j1:=Aw dw jY C.size
    replace ⟨h2,h4,h5,h6,h7,E,aa,ao,aq,J,C,W⟩:=(sa [bX,ac,ab] eB dw).g12 h2 h4 h5 h6 h7 E aa ao aq J C W
    replace aB:=aB.rn bX
    refine .go 16<|.cl (fun fD cX=>Ak s.idx.names (h4.ta.ext cX) (by have:=p1.ix.g.len; omega) (by (intro n hn; have:=(p1.ix.g.sz n hn).1; omega)) (w:=fD) (F:=all)) ?_
    intro fD cX
    replace ⟨h2,h4,h5,h6,h7,E,aa,aB,ao,aq,J,C⟩:=(se [bj,ac,ab] cX).g12 h2 h4 h5 h6 h7 E aa aB ao aq J C
    replace W:=(se [bj,ac,ab] cX).g1 W
    rintro qe qf ⟨⟨cx,lL,lM,rfl,bA,cj⟩,cY⟩
    have gk:=al3 aB.lt aa.lt E.lt
    have j2:Gb w.heap.size fD.heap.size:=J.size
    have hkeep_:=cY
    have j3:=Ah cj aB.lt
    have j4:Cov nil bI cx:=BT cj C.size
    replace ⟨h2,h4,h5,h6,h7,E,aa,aB,ao,aq,J,C⟩:=(sz [bj,ac,ab] cY cj).g12 h2 h4 h5 h6 h7 E aa aB ao aq J C
    replace W:=(sz [bj,ac,ab] cY cj).g1 W
    refine ⟨Ext.chg hkeep_,?_⟩
    replace bA:=Own.take (s0:=w.heap.size) (M:=[bj,ac,ab]) bA gk j2
    refine .r [17]<|.d fun io eC=>?_
    replace ⟨h2,h4,h5,h6,h7,E,aa,aB,ao,aq,bA,J⟩:=(se [cx,bj,ac,ab] eC).g12 h2 h4 h5 h6 h7 E aa aB ao aq bA J
    replace ⟨C,W⟩:=(se [cx,bj,ac,ab] eC).g2 C W
    replace h2:=h2.Aa
    replace h4:=h4.Aa
    replace h5:=h5.Aa
    replace h6:=h6.Aa
    replace h7:=h7.Aa
    have cZ:Mv [cx,bj,ac,ab] [bj,cx,ac,ab] io io:=Mv.less (all_cons AJ (all_cons AI (all_cons AK (all_cons AL all_nil))))
    exact ⟨(lF,lG,lH,lI,bj,lK,cx,lL,lM),⟨AA,AA,trivial⟩,⟨C,(Ad j1),(Ad j4),j3,(RepS.mv ao cZ),(RepS.mv aq cZ),(Own.mv aB cZ (Chg.refl nil _) (fun h=>h)),(Own.mv bA cZ (Chg.refl nil _) (fun h=>h))⟩⟩
   refine .ns 1 3 [vI d.next] fun qg gl=>?_
   replace ⟨h2,h4,h5,h6,h7,E,aa,J,C,W⟩:=(se [ac,ab] gl).g10 h2 h4 h5 h6 h7 E aa J C W
   intro cy qh c8 gm ae j5
   have gn:=AX c8 E.lt
   have gp:=AX c8 aa.lt
   have gq:=Ae c8 J.size
   replace ⟨h2,h4,h5,h6,h7,E,aa,J,C,W⟩:=(se [ac,ab] gm).g10 h2 h4 h5 h6 h7 E aa J C W
   refine .tw 3 5 ?_ ?_
   ·refine .cl (fun fE bR=>CC s (h4.ta.ext bR) (h5.ta.ext bR) (h6.ta.ext bR) (h7.ta.ext bR) (StoK.of (Cw p1 ‹_›) (C0 ‹_›).sk).row (StoK.of (Cw p1 ‹_›) (C0 ‹_›).sk).JW.Hg (by have:=p1.nm2; omega) (w:=fE) (F:=all)) ?_
    intro fE bR
    replace ⟨h2,h4,h5,h6,h7,E,aa,ae,J,C,W⟩:=(se [ac,ab] bR).g11 h2 h4 h5 h6 h7 E aa ae J C W
    rintro qi qj ⟨⟨_,rfl,⟨lN,qk,lO,lP,ql,lQ,rfl,al,am⟩⟩,eD⟩
    have eE:=al2 aa.lt E.lt
    have gr:Gb w.heap.size fE.heap.size:=J.size
    have hkeep_:=eD
    replace ⟨h2,h4,h5,h6,h7,E,aa,ae,J,C,W⟩:=(se [ac,ab] eD).g11 h2 h4 h5 h6 h7 E aa ae J C W
    refine ⟨Ext.chg hkeep_,?_⟩
    have al:=al.fr eE gr
    have n9:=al.max
    have am:=am.fr eE gr
    have oc:=am.max
    have j6:=al.len
    subst j6
    have j7:=am.len
    subst j7
    refine .r [4]<|.go 5<|.ns 0 3 [] fun qm eF=>?_
    replace ⟨h2,h4,h5,h6,h7,E,aa,ae,al,am,J,C⟩:=(se [ac,ab] eF).g12 h2 h4 h5 h6 h7 E aa ae al am J C
    replace W:=(se [ac,ab] eF).g1 W
    intro bK lR aQ eG j8 j9
    have ka:=AX aQ E.lt
    have kb:=AX aQ aa.lt
    have kd:=AX aQ ae.lt
    have ke:=J.cn aQ
    have kf:=C.cn aQ
    have gs:=W.cn aQ
    replace ⟨h2,h4,h5,h6,h7,E,aa,ae,al,am,J,C⟩:=(sn [ac,ab] eG aQ).g12 h2 h4 h5 h6 h7 E aa ae al am J C
    replace W:=(sn [ac,ab] eG aQ).g1 W
    have eH:Own (α:=Int) lR bK 3 (nin (ge w.heap.size) [bK,ac,ab]) 0 0 []:=Own.Aj j8
    refine .go 8<|GE.append (T:=34) (ty:=34) (args:=[vS bK 0 0,.slice a2 d.list.length c2]) AA fun qn eI=>?_
    replace ⟨h2,h4,h5,h6,h7,E,aa,ae,al,am,eH,J⟩:=(se [bK,ac,ab] eI).g12 h2 h4 h5 h6 h7 E aa ae al am eH J
    replace ⟨C,W⟩:=(se [bK,ac,ab] eI).g2 C W
    obtain ⟨bL,lS,qo,gV,bB,aM,c9,kg⟩:=Own.BG (P:=Tryz.prog) (T:=34) (ty:=34) BS eH AA h2 (fun b h e=>h.2 (e▸AI)) (by have:=p0.nl; omega)
    refine ⟨_,_,gV,Chg.toS c9 (Cov.toS gs),?_⟩
    have od:=Ag aM ka E.lt
    have oe:=Ag aM kb aa.lt
    have gt:=Ag aM kd ae.lt
    have og:=Aw aM ke J.size
    have kh:=Aw aM kf C.size
    have ki:=Aw aM gs W.size
    replace ⟨h2,h4,h5,h6,h7,E,aa,ae,al,am,J,C⟩:=(sa [bK,ac,ab] c9 aM).g12 h2 h4 h5 h6 h7 E aa ae al am J C
    replace W:=(sa [bK,ac,ab] c9 aM).g1 W
    replace bB:=bB.rn bK
    have oh:=bB.len
    refine .go 12<|GE.append (T:=34) (ty:=34) (args:=[vS bL (0+d.list.length) lS,vS cy 1 1]) AA fun qp eJ=>?_
    replace ⟨h2,h4,h5,h6,h7,E,aa,ae,al,am,bB,J⟩:=(se [bL,ac,ab] eJ).g12 h2 h4 h5 h6 h7 E aa ae al am bB J
    replace ⟨C,W⟩:=(se [bL,ac,ab] eJ).g2 C W
    have fF:nin (ge w.heap.size) [bL,ac,ab] cy∧cy≠bL:=BR gq (all_cons (Nb.symm gt) (all_cons gp (all_cons gn all_nil))) (Nb.symm gt)
    obtain ⟨bk,lT,qq,gW,aC,ck,da,kj⟩:=bB.Ax (P:=Tryz.prog) (T:=34) (ty:=34) (y:=d.next) AA ae rfl fF (by have:=p0.nl; omega)
    refine ⟨_,_,gW,Chg.toS da (Cov.toS ki),?_⟩
    have kk:=Aw ck kh C.size
    replace ⟨h2,h4,h5,h6,h7,E,aa,ae,al,am,J,C⟩:=(sa [bL,ac,ab] da ck).g12 h2 h4 h5 h6 h7 E aa ae al am J C
    replace W:=(sa [bL,ac,ab] da ck).g1 W
    replace aC:=aC.rn bL
    refine .go 16<|.cl (fun fG db=>Ak s.idx.names (h4.ta.ext db) (by have:=p1.ix.g.len; omega) (by (intro n hn; have:=(p1.ix.g.sz n hn).1; omega)) (w:=fG) (F:=all)) ?_
    intro fG db
    replace ⟨h2,h4,h5,h6,h7,E,aa,ae,al,am,aC,J⟩:=(se [bk,ac,ab] db).g12 h2 h4 h5 h6 h7 E aa ae al am aC J
    replace ⟨C,W⟩:=(se [bk,ac,ab] db).g2 C W
    rintro qr qs ⟨⟨cz,lU,lV,rfl,bC,cm⟩,de⟩
    have gu:=al3 aC.lt aa.lt E.lt
    have kl:Gb w.heap.size fG.heap.size:=J.size
    have hkeep_:=de
    have km:=Ah cm aC.lt
    have ko:Cov nil bI cz:=BT cm C.size
    replace ⟨h2,h4,h5,h6,h7,E,aa,ae,al,am,aC,J⟩:=(sz [bk,ac,ab] de cm).g12 h2 h4 h5 h6 h7 E aa ae al am aC J
    replace ⟨C,W⟩:=(sz [bk,ac,ab] de cm).g2 C W
    refine ⟨Ext.chg hkeep_,?_⟩
    replace bC:=Own.take (s0:=w.heap.size) (M:=[bk,ac,ab]) bC gu kl
    refine .r [17]<|.d fun ip eK=>?_
    replace ⟨h2,h4,h5,h6,h7,E,aa,ae,al,am,aC,bC⟩:=(se [cz,bk,ac,ab] eK).g12 h2 h4 h5 h6 h7 E aa ae al am aC bC
    replace ⟨J,C,W⟩:=(se [cz,bk,ac,ab] eK).g3 J C W
    replace h2:=h2.Aa
    replace h4:=h4.Aa
    replace h5:=h5.Aa
    replace h6:=h6.Aa
    replace h7:=h7.Aa
    have df:Mv [cz,bk,ac,ab] [bk,cz,ac,ab] ip ip:=Mv.less (all_cons AJ (all_cons AI (all_cons AK (all_cons AL all_nil))))
    exact ⟨(lN,lO,lP,lQ,bk,lT,cz,lU,lV),⟨AA,AA,trivial⟩,⟨C,(Ad kk),(Ad ko),km,(RepS.mv al df),(RepS.mv am df),(Own.mv aC df (Chg.refl nil _) (fun h=>h)),(Own.mv bC df (Chg.refl nil _) (fun h=>h))⟩⟩
   refine .ns 0 3 [] fun qt gv=>?_
   replace ⟨h2,h4,h5,h6,h7,E,aa,ae,J,C,W⟩:=(se [ac,ab] gv).g11 h2 h4 h5 h6 h7 E aa ae J C W
   intro bM lW aZ gw kr ks
   have kt:=AX aZ E.lt
   have ku:=AX aZ aa.lt
   have kv:=AX aZ ae.lt
   have kw:=J.cn aZ
   have kx:=C.cn aZ
   have gy:=W.cn aZ
   replace ⟨h2,h4,h5,h6,h7,E,aa,ae,J,C,W⟩:=(sn [ac,ab] gw aZ).g11 h2 h4 h5 h6 h7 E aa ae J C W
   have ba:Own (α:=Int) lW bM 3 (nin (ge w.heap.size) [bM,ac,ab]) 0 0 []:=Own.Aj kr
   refine .go 3<|.cl (fun fH bS=>CC s (h4.ta.ext bS) (h5.ta.ext bS) (h6.ta.ext bS) (h7.ta.ext bS) (StoK.of (Cw p1 ‹_›) (C0 ‹_›).sk).row (StoK.of (Cw p1 ‹_›) (C0 ‹_›).sk).JW.Hg (by have:=p1.nm2; omega) (w:=fH) (F:=all)) ?_
   intro fH bS
   replace ⟨h2,h4,E,aa,ae,ba,J,C,W⟩:=(se [bM,ac,ab] bS).g9 h2 h4 E aa ae ba J C W
   rintro qu qv ⟨⟨_,rfl,⟨lX,qw,lY,lZ,qx,l0,rfl,ar,au⟩⟩,eL⟩
   have eM:=al3 ba.lt aa.lt E.lt
   have gz:Gb w.heap.size fH.heap.size:=J.size
   have hkeep_:=eL
   replace ⟨h2,h4,E,aa,ae,ba,J,C,W⟩:=(se [bM,ac,ab] eL).g9 h2 h4 E aa ae ba J C W
   refine ⟨Ext.chg hkeep_,?_⟩
   have ar:=ar.fr eM gz
   have ov:=ar.max
   have au:=au.fr eM gz
   have oz:=au.max
   have ky:=ar.len
   subst ky
   have kz:=au.len
   subst kz
   refine .r [4]<|.go 8<|GE.append (T:=34) (ty:=34) (args:=[vS bM 0 0,.slice a2 d.list.length c2]) AA fun qy gA=>?_
   replace ⟨h2,h4,E,aa,ae,ba,ar,au,J,C,W⟩:=(se [bM,ac,ab] gA).g11 h2 h4 E aa ae ba ar au J C W
   obtain ⟨cA,l3,qz,gX,bD,aO,eN,kA⟩:=Own.BG (P:=Tryz.prog) (T:=34) (ty:=34) BS ba AA h2 (fun b h e=>h.2 (e▸AI)) (by have:=p0.nl; omega)
   refine ⟨_,_,gX,Chg.toS eN (Cov.toS gy),?_⟩
   have oA:=Ag aO kt E.lt
   have oB:=Ag aO ku aa.lt
   have gC:=Ag aO kv ae.lt
   have oC:=Aw aO kw J.size
   have kB:=Aw aO kx C.size
   have kC:=Aw aO gy W.size
   replace ⟨h4,E,aa,ae,ar,au,J,C⟩:=(sa [bM,ac,ab] eN aO).g8 h4 E aa ae ar au J C
   replace bD:=bD.rn bM
   have oD:=bD.len
   refine .go 12<|GE.append (T:=34) (ty:=34) (args:=[vS cA (0+d.list.length) l3,vS cy 1 1]) AA fun qA gD=>?_
   replace ⟨h4,E,aa,ae,bD,ar,au,J,C⟩:=(se [cA,ac,ab] gD).g9 h4 E aa ae bD ar au J C
   have fI:nin (ge w.heap.size) [cA,ac,ab] cy∧cy≠cA:=BR gq (all_cons (Nb.symm gC) (all_cons gp (all_cons gn all_nil))) (Nb.symm gC)
   obtain ⟨bY,l4,qB,gY,aD,dx,eO,kD⟩:=bD.Ax (P:=Tryz.prog) (T:=34) (ty:=34) (y:=d.next) AA ae rfl fI (by have:=p0.nl; omega)
   refine ⟨_,_,gY,Chg.toS eO (Cov.toS kC),?_⟩
   have kE:=Aw dx kB C.size
   replace ⟨h4,E,aa,ar,au,J,C⟩:=(sa [cA,ac,ab] eO dx).g7 h4 E aa ar au J C
   replace aD:=aD.rn cA
   refine .go 16<|.cl (fun fJ eP=>Ak s.idx.names (h4.ta.ext eP) (by have:=p1.ix.g.len; omega) (by (intro n hn; have:=(p1.ix.g.sz n hn).1; omega)) (w:=fJ) (F:=all)) ?_
   intro fJ eP
   replace ⟨E,aa,aD,ar,au,J,C⟩:=(se [bY,ac,ab] eP).g7 E aa aD ar au J C
   rintro qC qD ⟨⟨dy,l6,l7,rfl,bE,dg⟩,eQ⟩
   have gE:=al3 aD.lt aa.lt E.lt
   have kF:Gb w.heap.size fJ.heap.size:=J.size
   have hkeep_:=eQ
   have kG:=Ah dg aD.lt
   have kH:Cov nil bI dy:=BT dg C.size
   replace ⟨E,aa,aD,ar,au,J,C⟩:=(sz [bY,ac,ab] eQ dg).g7 E aa aD ar au J C
   refine ⟨Ext.chg hkeep_,?_⟩
   replace bE:=Own.take (s0:=w.heap.size) (M:=[bY,ac,ab]) bE gE kF
   refine .r [17]<|.d fun iq gF=>?_
   replace ⟨E,aa,aD,ar,au,bE,J,C⟩:=(se [dy,bY,ac,ab] gF).g8 E aa aD ar au bE J C
   have dh:Mv [dy,bY,ac,ab] [bY,dy,ac,ab] iq iq:=Mv.less (all_cons AJ (all_cons AI (all_cons AK (all_cons AL all_nil))))
   exact ⟨(lX,lY,lZ,l0,bY,l4,dy,l6,l7),⟨AA,AA,trivial⟩,⟨C,(Ad kE),(Ad kH),kG,(RepS.mv ar dh),(RepS.mv au dh),(Own.mv aD dh (Chg.refl nil _) (fun h=>h)),(Own.mv bE dh (Chg.refl nil _) (fun h=>h))⟩⟩
  rintro ⟨eU,eV,eW,eX,aW,eY,aR,eZ,e7⟩ qE dA ⟨gG,dj,dm,oJ,bF,bG,cB,bN⟩
  have oK:=Ah dj E.lt
  have oL:=Ah dj aa.lt
  have kI:=Bo dj J.size
  have oM:=Ah dm E.lt
  have oN:=Ah dm aa.lt
  have kJ:=Bo dm J.size
  replace ⟨E,aa,J⟩:=(se [] gG).g3 E aa J
  refine .ns 2 137 [vI 1,vI d.next,.slice eU ((BJ s.mem).ids.length) eV,.slice eW ((BJ s.mem).blocks.length) eX,AH,AH,vI 2,vI 0,AH,AH,vS aW (0+d.list.length+1) eY,vS aR eZ e7] fun dz fK bH gH kK kL=>?_
  have oW:=AX bH E.lt
  have oX:=AX bH aa.lt
  have oY:=AX bH cB.lt
  have oZ:=AX bH bN.lt
  have kM:=Ae bH J.size
  replace ⟨E,aa,bF,bG,cB,bN,J⟩:=(sn [aW,aR,ac,ab] gH bH).g7 E aa bF bG cB bN J
  have fL:=cB.sl kI
  replace ⟨bF,bG,bN⟩:=(sd fK [dz,aW,aR,ac,ab] aW).g3 bF bG bN
  have l8:=bN.sl kJ
  replace ⟨bF,bG,fL⟩:=(sd fK [dz,aR,ac,ab] aR).g3 bF bG fL
  have kN:Own (α:=Stp) fK dz 137 (nin (ge w.heap.size) [dz,ac,ab]) 2 2 [(⟨1,d.next,(⟨(BJ s.mem).ids,(BJ s.mem).blocks⟩:Prt),([]:List Int),([]:List (List Tag))⟩:Stp),(⟨2,0,(⟨([]:List Int),([]:List (List Row))⟩:Prt),(([]++d.list)++[d.next]),s.idx.names⟩:Stp)]:=Own.lit kK rfl AE ⟨⟨_,_,_,_,_,_,_,_,_,_,_,_,rfl,bF.oi,bG.oi,(RepS.Aj _ _ none 0 AE),(RepS.Aj _ _ none 0 AE)⟩,⟨_,_,_,_,_,_,_,_,_,_,_,_,rfl,(RepS.Aj _ _ none 0 AE),(RepS.Aj _ _ none 0 AE),fL.oi,l8.oi⟩,rfl⟩
  refine .r 1<|.d ?_
  have l9:=kN.sl kM
  exact .rt func55 results55 (vS dz 2 2) ⟨(l9.vl (by exact UX ‹_› ‹_› ‹_› ‹_› p0) (fun _ _ h=>h.1)),J⟩
 refine .r 1<|.d<|.ct<|.s<|.g<|.ns 0 137 [] fun fM ma dp gI kO kP=>?_
 have o0:=AX dp E.lt
 have o5:=AX dp aa.lt
 have kQ:=Ae dp J.size
 replace J:=(se [] gI).g1 J
 have kR:Own (α:=Stp) ma fM 137 (nin (ge w.heap.size) [fM,ac,ab]) 0 0 []:=Own.Aj kO
 refine .r 1<|.d ?_
 have mb:=kR.sl kQ
 exact .rt func55 results55 (vS fM 0 0) ⟨(mb.vl (by exact TC (.inr (.inr ‹_›))) (fun _ _ h=>h.1)),J⟩
end Go.Proofs.YtggnnidleedpaaaGreat
namespace Go.Proofs.YtggnnidleedpaaaGreat
theorem Tz {α:Type}[BEq α] [LawfulBEq α] {a b:List α}{k:Nat}{x y:α}(h:a.drop k=b.drop k↔a=b) (ha:a.drop k=x::a.drop (k+1)) (hb:b.drop k=y::b.drop (k+1)) (e:(x==y)=true):a.drop (k+1)=b.drop (k+1)↔a=b:=by
 rw [← h,ha,hb,eq_of_beq e]
 simp
theorem T0 {α:Type}[BEq α] [LawfulBEq α] {a b:List α}{k:Nat}{x y:α}(h:a.drop k=b.drop k↔a=b) (ha:a.drop k=x::a.drop (k+1)) (hb:b.drop k=y::b.drop (k+1)) (e:(x==y)=false):a≠b:=fun e2=>by
 have:=h.2 e2
 rw [ha,hb,List.cons.injEq] at this
 exact beq_eq_false_iff_ne.1 e this.1
end Go.Proofs.YtggnnidleedpaaaGreat
namespace Go.Proofs.YtggnnidleedpaaaGreat
section
variable {α:Type} [Rep α] {w:World} {G F:Nat→Prop} {M ML M2:List Nat} {o:Option Addr} {n c r s b x:Nat} {t:TypeId} {xs:List α}
theorem RepS.Ex (h:RepS w (nin F M) o n c xs):RepS w (nin (fo F s) M) o n c xs:=h.CE fun _ _ hF=>⟨.inl hF.1,hF.2⟩
theorem RepS.toM (h:RepS w (nin G M) o n c xs) (hs:∀ b∈ML,b∈M):RepS w (nin (nin G M) ML) o n c xs:=h.CE fun k _ hk=>⟨hk,fun e=>hk.2 (hs k e)⟩
theorem Own.toM (h:Own w r t (nin G M) n c xs) (hs:∀ b∈ML,b∈M):Own w r t (nin (nin G M) ML) n c xs:=h.CE fun k _ hk=>⟨hk,fun e=>hk.2 (hs k e)⟩
theorem Cov.mkI {L:List Nat}(h:b∈L):Cov (ins L) w b:=⟨.inl h⟩
theorem H6 (h:Cov (ins [b,r]) w x) (hn:Nb x b):OrB x r w.heap.size:=by
 rcases h.or with h | h
 ·have h2:x∈[b,r]:=h
  rcases List.mem_cons.1 h2 with rfl | h2
  ·exact absurd rfl hn.ne
  ·simp at h2
   exact .inl h2
 ·exact .inr h
theorem QI {k:Nat}(h:nin (fo (nin G M) s) ML k) (hM:∀ b∈M,b< s) (hG:∀ b,s≤b→G b) (h2:∀ b∈M2,b∈ML∨b∈M):nin G M2 k:=by
 refine ⟨?_,fun hm=>?_⟩
 ·rcases h.1 with h1 | h1
  ·exact h1.1
  ·exact hG _ h1
 ·rcases h2 k hm with h3 | h3
  ·exact h.2 h3
  ·rcases h.1 with h1 | h1
   ·exact h1.2 h3
   ·have:=hM k h3; omega
theorem RepS.bxM (h:RepS w (nin (fo (nin G M) s) ML) o n c xs) (hM:∀ b∈M,b< s) (hG:∀ b,s≤b→G b) (h2:∀ b∈M2,b∈ML∨b∈M):RepS w (nin G M2) o n c xs:=h.CE fun _ _ hk=>QI hk hM hG h2
theorem Own.bxM (h:Own w r t (nin (fo (nin G M) s) ML) n c xs) (hM:∀ b∈M,b< s) (hG:∀ b,s≤b→G b) (h2:∀ b∈M2,b∈ML∨b∈M):Own w r t (nin G M2) n c xs:=h.CE fun _ _ hk=>QI hk hM hG h2
end
theorem Own.UY {w:World}{r:Nat}{t:TypeId}{F:Nat→Prop}{n c i:Nat}{xs:List Fil}{cs:List Value}(h:Own w r t F n c xs) (hB:Box w r t cs):∀ v,i+(n - i)≤n→v∈(cs.drop (i * 3)).take ((n - i) * 3)→Go.Proofs.YtggnnidleedpaaaGreat.Dr v=true:=by
 intro v hin hv
 obtain ⟨k,hk⟩:=List.mem_iff_getElem?.1 hv
 rw [List.getElem?_take] at hk
 split at hk
 ·rename_i hlt
  rw [List.getElem?_drop] at hk
  have hn:=h.len
  have hj:i+k / 3< xs.length:=by omega
  obtain ⟨c1,g1,g2⟩:=h.elem (i+k / 3) xs[i+k / 3] (AU hj)
  have hl:c1.length=3:=Rep.len g1
  have hk2:k % 3< c1.length:=by omega
  have h3:=g2 (k % 3) c1[k % 3] (AU hk2)
  have hz:Rep.sz Fil=3:=rfl
  unfold Box at hB
  rw [add_lit,hz] at h3
  simp only [World.cell?,hB] at h3
  have e:(i+k / 3) * 3+k % 3=i * 3+k:=by omega
  rw [e] at h3
  have h4:cs[i * 3+k]? = some c1[k % 3]:=by simpa using h3
  rw [hk] at h4
  cases h4
  exact Rep.flat g1 _ (List.getElem_mem hk2)
 ·cases hk
theorem QJ {P:Program}{T ty t:TypeId}{sz:Nat}{w:World}{r o c m:Nat}{cs:List Value}(hT:Rh P T t sz=true) (hB:Box w r t cs) (hm:0< m) (hfit:o+m * sz≤cs.length) :
 ∃ vs w',(Builtin.clear_ #[T] ty #[.slice (some ⟨r,o,none⟩) m c]).run P w=.ok (.tuple #[]) w'∧vs.length=m * sz∧Box w' r t (BQ cs o vs)∧Chg (one r) w w':=by
 unfold Rh at hT
 simp only [AW] at hT
 obtain ⟨h1,h2⟩:=hT
 split at h1
 ·rename_i e he
  have:=Nat.eq_of_beq_eq_true h1
  subst this
  split at h2
  ·rename_i inf hinf
   split at h2
   ·rename_i z hz
    simp only [AW,List.all_eq_true] at h2
    have hsz:=Nat.eq_of_beq_eq_true h2.1
    have hl:(Builtin.zeroCells z.cells m).toList.length=m * sz:=by rw [Array.length_toList,size_zeroCells,hsz]
    have ho:∀ v∈(Builtin.zeroCells z.cells m).toList,Dr v=true:=fun v hv=>by
     unfold Builtin.zeroCells at hv
     simp only [Array.toList_map,List.mem_map,Array.toList_range,List.mem_range] at hv
     obtain ⟨k,hk,rfl⟩:=hv
     have hk2:k % z.cells.size< z.cells.size:=Nat.mod_lt _ (Nat.pos_of_ne_zero (fun e=>by rw [e,Nat.mul_zero] at hk; omega))
     refine h2.2 _ ?_
     rw [getElem!_pos z.cells _ hk2]
     exact Array.getElem_mem_toList hk2
    obtain ⟨w',g1,g2,g3,_⟩:=hB.Kn (P:=P) (Builtin.zeroCells z.cells m).toList (o:=o) (i:=0) AB ho
    refine ⟨_,w',?_,hl,g2,g3⟩
    have hv:(zeroValue e).run P w=.ok z w:=by simp [zeroValue,typeInfo,hinf,hz,go_sem]
    unfold Builtin.clear_
    simp only [List.getElem?_toArray,List.getElem?_cons_zero]
    rw [AZ (run_underlying he w)]
    obtain ⟨m',rfl⟩:∃ k,m=k+1:=⟨m - 1,by omega⟩
    simp only []
    rw [AZ hv,AZ g1]
    rfl
   ·cases h2
  ·cases h2
 ·cases h1
theorem Own.TD {α:Type}[Rep α] {w w':World}{r:Nat}{t:TypeId}{F:Nat→Prop}{n c i:Nat}{xs:List α}{cs cs':List Value}(h:Own w r t F n c xs) (hx:Chg (one r) w w') (hB:Box w r t cs) (hB':Box w' r t cs') (hl:cs'.length=c * Rep.sz α) (hi:i≤n)
 (hp:∀ p,p< i * Rep.sz α→cs'[p]? = cs[p]?):Own w' r t F i c (xs.take i):=by
 have hn:=h.len
 have hle:=h.le
 have hcap:=h.cap
 unfold Box at hB hB'
 refine ⟨by rw [List.length_take]; omega,by omega,hcap,⟨cs'.toArray,hB',by simpa using hl⟩,fun k x hk=>?_⟩
 have hfr:∀ b,b< w.heap.size→F b∧b≠r→(F b∧b≠r)∧w'.heap[b]? = w.heap[b]? := fun b hb hF=>⟨hF,hx.block b hb (fun e=>hF.2 e)⟩
 rw [List.getElem?_take] at hk
 split at hk
 ·rename_i hki
  obtain ⟨c1,g1,g2⟩:=h.elem k x hk
  refine ⟨c1,Rep.frame g1 hfr,fun u v hv=>?_⟩
  have h3:=g2 u v hv
  have hu:u< Rep.sz α:=by have:=(List.getElem?_eq_some_iff.1 hv).1; rw [Rep.len g1] at this; exact this
  have hm:k * Rep.sz α+Rep.sz α≤i * Rep.sz α:=by rw [← Nat.succ_mul]; exact Nat.mul_le_mul_right _ hki
  rw [add_lit] at h3 ⊢
  simp only [World.cell?,hB] at h3
  simp only [World.cell?,hB']
  have:=hp (k * Rep.sz α+u) AB
  simpa [this] using h3
 ·cases hk
theorem Oo {cs v:List Value}{i p:Nat}(hp:p< i) (hi:i≤cs.length):(BQ cs i v)[p]? = cs[p]? := by
 unfold BQ
 rw [List.append_assoc,List.getElem?_append_left (by rw [List.length_take]; omega),List.getElem?_take,if_pos hp]
end Go.Proofs.YtggnnidleedpaaaGreat
namespace Go.Proofs.YtggnnidleedpaaaGreat
def T1:Dsk:=⟨[],[],[],0⟩
def Ar (d:Dsk) (st:List Stp) (c:Int):Dsk:=if BI d=true∧0≤c∧BI (toD d st c)=true then toD d st c else T1
def Br (d:Dsk):Dsk:=if BI d then BM d else T1
def Ao (d:Dsk) (a:Int):List Stp:=if BI d then BF d a else []
theorem Dp {d:Dsk}{a:Int}(h:BI d=true):Ao d a=BF d a:=by unfold Ao; rw [if_pos h]
theorem MK {d:Dsk}{a:Int}(h:BI d=false):Ao d a=[]:=by unfold Ao; rw [if_neg (by simp [h])]
structure StW (d:Dsk) (st:List Stp):Prop where
 len:st.length≤4
 sz:∀ x∈st,II x
 pt:∀ x∈st,Ck x.part
 ok:∀ k:Nat,DD ((st.take k).foldl doD d)
theorem DD.SK {d:Dsk}(h:DD d){x:Stp}(hk:x.kind=1) (hf:d.files.length< 20) (hn:0≤x.num∧x.num≤998) (hp:PrtI x.part):DD (doD d x):=by
 rw [E6 hk]
 refine ⟨h.g,h.nl,by simp; omega,fun f hf=>?_,by show 0≤x.num+1∧x.num+1≤999; omega⟩
 rcases List.mem_append.1 hf with hf | hf
 ·exact h.file f hf
 ·simp at hf; subst hf; exact hp
theorem DD.T3 {d:Dsk}(h:DD d){x:Stp}(hk:x.kind=2) (hl:x.list.length≤7) (hn:NmG x.names):DD (doD d x):=by
 rw [Fs hk]
 exact ⟨hn,hl,h.nf,h.file,h.next⟩
theorem F6 {d:Dsk}{n:Int}:∀ f∈DY d n,f∈d.files:=fun f hf=>by
 unfold DY at hf
 split at hf
 ·rcases List.mem_append.1 hf with hf | hf
  ·exact List.mem_of_mem_take hf
  ·exact List.mem_of_mem_drop hf
 ·exact hf
theorem Jg {d:Dsk}{n:Int}:(DY d n).length≤d.files.length:=by
 unfold DY
 split
 ·rw [List.length_append,List.length_take,List.length_drop]; omega
 ·exact Nat.le_refl _
theorem DD.T4 {d:Dsk}(h:DD d){x:Stp}(hk:x.kind=3):DD (doD d x):=by
 rw [Ej hk]
 exact ⟨h.g,h.nl,Nat.le_trans Jg h.nf,fun f hf=>h.file f (F6 f hf),h.next⟩
theorem QK {d:Dsk}{x:Stp}{xs:List Stp}(h0:DD d) (h:∀ k:Nat,DD ((xs.take k).foldl doD (doD d x))):∀ k:Nat,DD (((x::xs).take k).foldl doD d):=by
 intro k
 cases k with
 | zero=>exact h0
 | succ k=>exact h k
theorem QL {d:Dsk}(h0:DD d):∀ k:Nat,DD ((([]:List Stp).take k).foldl doD d):=by intro k; simpa using h0
theorem StW.nil {d:Dsk}(h:DD d):StW d []:=⟨by simp,by simp,by simp,QL h⟩
theorem HV {x:Stp}(hl:x.list.length≤7) (hn:x.names.length≤7) (h5:∀ n∈x.names,n.length≤1000) (hx:-9000000≤x.num∧x.num≤9000000):II x:=⟨by omega,by omega,h5,hx.1,hx.2⟩
theorem QM {ns:List (List Tag)}(h:NmG ns):∀ n∈ns,n.length≤1000:=fun n hn=>(h.sz n hn).1
theorem Kb:Ck ⟨[],[]⟩:=⟨rfl,by simp,by simp⟩
theorem HW {d:Dsk}(h:DD d){l:List Int}{ns:List (List Tag)}{xs:List Stp}(hl:l.length≤7) (hn:NmG ns) (hx:∀ x∈xs,x.kind=3∧II x∧x.part=⟨[],[]⟩) (h3:xs.length≤2):StW d (⟨2,0,⟨[],[]⟩,l,ns⟩ :: xs):=by
 refine ⟨by simp; omega,fun x hm=>?_,fun x hm=>?_,QK h ?_⟩
 ·rcases List.mem_cons.1 hm with rfl | hm
  ·exact HV hl hn.len (QM hn) AD
  ·exact (hx x hm).2.1
 ·rcases List.mem_cons.1 hm with rfl | hm
  ·exact Kb
  ·rw [(hx x hm).2.2]; exact Kb
 ·have key:∀ (xs:List Stp) (d:Dsk),DD d→(∀ x∈xs,x.kind=3)→∀ k:Nat,DD ((xs.take k).foldl doD d):=by
   intro xs
   induction xs with
   | nil=>intro d h _; exact QL h
   | cons x xs ih=>intro d h hk; exact QK h (ih _ (h.T4 (hk x AD)) (fun y hy=>hk y (by simp [hy])))
  exact key xs _ (h.T3 rfl hl hn) (fun x hm=>(hx x hm).1)
theorem StW.SL {d:Dsk}(h:DD d){n:Int}{p:Prt}{xs:List Stp}(hf:d.files.length< 20) (hn:0≤n∧n≤998) (hp:PrtI p) (h3:xs.length≤3) (hx:StW (doD d ⟨1,n,p,[],[]⟩) xs):StW d (⟨1,n,p,[],[]⟩ :: xs):=by
 refine ⟨by simp; omega,fun x hm=>?_,fun x hm=>?_,QK h hx.ok⟩
 ·rcases List.mem_cons.1 hm with rfl | hm
  ·exact HV AD AD AD (by show -9000000≤n∧n≤9000000; omega)
  ·exact hx.sz x hm
 ·rcases List.mem_cons.1 hm with rfl | hm
  ·exact hp.sz
  ·exact hx.pt x hm
theorem SM {s:Sto}(h:SD s):NmG s.idx.names:=NmG.of h.nm h.nd
theorem Kc {s:Sto}(h:StoK s):PrtI (BJ s.mem):=PrtI.mem h.row
theorem H7 {d:Dsk}{s:Sto}(h:DD d) (hs:SD s):StW d (An d s)∧StW d (((An d s).take (An d s).length).drop 1):=by
 rw [List.take_length]
 unfold An
 split
 ·rename_i hf
  have q:=C0 hf
  have hk:=Ct q.dk
  by_cases hc:s.mem.length=0∨d.list.length≥6∨d.next≥999∨d.files.length≥20
  ·have e:BD d s=[]:=by unfold BD; rw [if_pos hc]
   rw [e]; exact ⟨StW.nil h,StW.nil h⟩
  ·have e:=D8 (d:=d) (s:=s) AB AB AB AB
   rw [e]
   have hn:=h.next
   have h1:=HW (l:=d.list++[d.next]) (xs:=[]) h (by simp; omega) (SM hs) AD AD
   have h2:DD (doD d ⟨1,d.next,BJ s.mem,[],[]⟩):=h.SK rfl AB (by show 0≤d.next∧d.next≤998; omega) (Kc (StoK.of hs q.sk))
   exact ⟨StW.SL h AB AB (Kc (StoK.of hs q.sk)) AD (HW h2 (by simp; omega) (SM hs) AD AD),h1⟩
 ·exact ⟨StW.nil h,StW.nil h⟩
theorem H8 {d:Dsk}(h:DD d) (a:Int):StW d (Ao d a)∧StW d (((Ao d a).take (Ao d a).length).drop 1):=by
 rw [List.take_length]
 unfold Ao
 split
 ·rename_i hk0
  have hk:=Ct hk0
  have hdi:=h.di hk0
  unfold BF
  split
  ·exact ⟨StW.nil h,StW.nil h⟩
  ·rename_i h1
   simp only [Bool.or_eq_true,not_or,Bool.not_eq_true,Bool.not_eq_false',decide_eq_true_eq] at h1
   obtain ⟨⟨h1,h3⟩,h4⟩:=h1
   have h0:=CF (by simpa using h1)
   have hl:a.toNat+1< d.list.length:=by omega
   have ha:d.list.getD a.toNat 0∈d.list:=by rw [List.getD_eq_getElem?_getD,AU AB]; exact List.getElem_mem _
   have hb:d.list.getD (a.toNat+1) 0∈d.list:=by rw [List.getD_eq_getElem?_getD,AU hl]; exact List.getElem_mem _
   have na:=hdi.num _ ha
   have nb:=hdi.num _ hb
   have hn:=h.next
   generalize d.list.getD a.toNat 0=x at *
   generalize d.list.getD (a.toNat+1) 0=y at *
   have hp:PrtI (BW (BH d x) (BH d y)):=(h.part x).merge (h.part y)
   have hlen:(d.list.take a.toNat++[d.next]++d.list.drop (a.toNat+2)).length≤7:=by
    simp only [List.length_append,List.length_take,List.length_drop,List.length_cons,List.length_nil]; omega
   have hg:∀ z∈[(⟨3,x,⟨[],[]⟩,[],[]⟩:Stp),⟨3,y,⟨[],[]⟩,[],[]⟩],z.kind=3∧II z∧z.part=⟨[],[]⟩:=fun z hz=>by
    simp only [List.mem_cons,List.not_mem_nil,or_false] at hz
    rcases hz with rfl | rfl
    ·exact ⟨rfl,HV AD AD AD (by show -9000000≤x∧x≤9000000; omega),rfl⟩
    ·exact ⟨rfl,HV AD AD AD (by show -9000000≤y∧y≤9000000; omega),rfl⟩
   have h2:DD (doD d ⟨1,d.next,BW (BH d x) (BH d y),[],[]⟩):=h.SK rfl AB (by show 0≤d.next∧d.next≤998; omega) hp
   exact ⟨StW.SL h AB AB hp AD (HW h2 hlen h.g hg AD),HW h hlen h.g hg AD⟩
 ·exact ⟨StW.nil h,StW.nil h⟩
theorem Rp {l:List Stp}{i:Nat}{d:Dsk}{q:Stp}{Y:Dsk}(h:(l.drop i).foldl doD d=Y) (hd:l.drop i=q::l.drop (i+1)):(l.drop (i+1)).foldl doD (doD d q)=Y:=by
 rw [hd] at h
 exact h
theorem NC {l:List Stp}{i:Nat}{d:Dsk}{Y:Dsk}(h:(l.drop i).foldl doD d=Y) (hi:l.length≤i):d=Y:=by
 rw [Ab hi] at h
 exact h
theorem TE {d:Dsk}{st:List Stp}{c:Int}(hc:¬ c< 0):((st.take (if (st.length:Int)< c then (st.length:Int) else c).toNat).drop 0).foldl doD d=toD d st c:=by
 unfold toD
 rw [List.drop_zero]
 split
 ·rw [show ((st.length:Int)).toNat=st.length by omega,List.take_length,List.take_of_length_le AB]
 ·rfl
theorem H9 {l:List Stp}{i:Nat}{x d:Dsk}{st:List Stp}{c:Int}(h:(l.drop i).foldl doD x=toD d st c) (hi:l.length≤i) (hw:StW d st):DD x:=by
 rw [NC h hi]
 exact hw.ok c.toNat
theorem QN {d:Dsk}(x:Stp):(doD d x).files.length≤d.files.length+1:=by
 unfold doD
 split
 ·simp
 ·split
  ·simp
  ·split
   ·have:=Jg (d:=d) (n:=x.num); simp only; omega
   ·omega
theorem T5 {st:List Stp}{c:Int}{k:Nat}{x:Stp}(h:((st.take (if (st.length:Int)< c then (st.length:Int) else c).toNat).drop 0)[k]? = some x):k< st.length:=by
 have:=(List.getElem?_eq_some_iff.1 h).1
 rw [List.length_drop,List.length_take] at this
 omega
theorem TF {d:Dsk}(h:DD d):d.files.length≤1000:=by have:=h.nf; omega
theorem TG {d:Dsk}(h:DD d):∀ f∈d.files,Ck f.part:=fun f hf=>(h.file f hf).sz
theorem TH {d:Dsk}(h:DD d):d.list.length≤1000:=by have:=h.nl; omega
theorem TI {d:Dsk}(h:DD d):d.names.length≤1000:=by have:=h.g.len; omega
theorem TJ {d:Dsk}(h:DD d):∀ n∈d.names,n.length≤1000:=QM h.g
theorem QO {d:Dsk}{st:List Stp}{c:Int}(h:BI d=false∨c< 0∨BI (toD d st c)=false):(⟨[],[],[],0⟩:Dsk)=Ar d st c:=by
 unfold Ar
 rw [if_neg]
 ·rfl
 ·rintro ⟨h1,h2,h3⟩
  rcases h with h | h | h
  ·rw [h] at h1; cases h1
  ·omega
  ·rw [h] at h3; cases h3
theorem SN {d:Dsk}{st:List Stp}{c:Int}(h:BI d=true) (h1:¬ c< 0) (h2:BI (toD d st c)=true):Ar d st c=toD d st c:=by
 unfold Ar
 rw [if_pos ⟨h,by omega,h2⟩]
theorem Rq {l:List Stp}{i:Nat}{x d:Dsk}{st:List Stp}{c:Int}(h:(l.drop i).foldl doD x=toD d st c) (hi:l.length≤i) (h2:BI x=false):(⟨[],[],[],0⟩:Dsk)=Ar d st c:=by
 rw [NC h hi] at h2
 exact QO (.inr (.inr h2))
theorem Rr {l:List Stp}{i:Nat}{x d:Dsk}{st:List Stp}{c:Int}(h:(l.drop i).foldl doD x=toD d st c) (hi:l.length≤i) (h0:BI d=true) (h1:¬ c< 0) (h2:BI x=true):x=Ar d st c:=by
 rw [NC h hi] at h2 ⊢
 exact (SN h0 h1 h2).symm
theorem TK {d:Dsk}{st:List Stp}(c:Int) (h:StW d st):DD (toD d st c):=h.ok c.toNat
theorem DD.tidy {d:Dsk}(h:DD d):DD (BM d):=⟨h.g,h.nl,Nat.le_trans (List.length_filter_le _ _) h.nf,fun f hf=>h.file f (List.mem_filter.1 hf).1,h.next⟩
theorem Rs {d:Dsk}(h:BI d=false):(⟨[],[],[],0⟩:Dsk)=Br d:=by unfold Br; rw [if_neg (by simp [h])]; rfl
theorem I3 {d:Dsk}(h:BI d=true):Br d=BM d:=by unfold Br; rw [if_pos h]
theorem TL {l:List Fil}{i:Nat}{k:List Fil}{q:Fil}(h:k++l.drop i=l) (hd:l.drop i=q::l.drop (i+1)):(k++[q])++l.drop (i+1)=l:=by
 rw [hd] at h
 simpa using h
theorem Rt {α:Type}{l:List α}{i:Nat}{k:List α}(h:k++l.drop i=l) (hi:l.length≤i):k=l:=by
 rw [Ab hi] at h
 simpa using h
theorem TM {a b:List Fil}{k:Nat}{x y:Fil}(h:a.drop k=b.drop k↔a=b) (ha:a.drop k=x::a.drop (k+1)) (hb:b.drop k=y::b.drop (k+1)) (h1:x.num=y.num) (h2:(x.part==y.part)=true):a.drop (k+1)=b.drop (k+1)↔a=b:=by
 have e:x=y:=by
  have:=eq_of_beq h2
  cases x; cases y
  simp_all
 rw [← h,ha,hb,e]
 simp
theorem QP {a b:List Fil}{k:Nat}{x y:Fil}(h:a.drop k=b.drop k↔a=b) (ha:a.drop k=x::a.drop (k+1)) (hb:b.drop k=y::b.drop (k+1)) (h1:x.num≠y.num∨(x.part==y.part)=false):a≠b:=fun e=>by
 have:=h.2 e
 rw [ha,hb,List.cons.injEq] at this
 rcases h1 with h1 | h1
 ·exact h1 (by rw [this.1])
 ·rw [this.1] at h1; simp at h1
theorem MM {α:Type}{a b:List α}{k:Nat}(h:a.drop k=b.drop k↔a=b) (ha:a.length≤k) (hl:(a.length:Int)=b.length):a=b:=h.1 (by rw [Ab ha,Ab AB])
theorem Gw {a b:Dsk}(h:a.files≠b.files∨a.list≠b.list∨a.names≠b.names∨a.next≠b.next):false=(a==b):=(beq_eq_false_iff_ne.2 (fun e=>by subst e; simp at h)).symm
theorem TN {a b:Dsk}(h1:a.files=b.files) (h2:(a.list==b.list)=true) (h3:a.names=b.names) (h4:a.next=b.next):true=(a==b):=by
 symm
 rw [beq_iff_eq]
 have:=eq_of_beq h2
 cases a; cases b
 simp_all
theorem QQ {α:Type}{a b:List α}(h:(a.length:Int)≠b.length):a≠b:=fun e=>h (by rw [e])
theorem TO {α:Type}[BEq α] [LawfulBEq α] {a b:α}(h:(a==b)=false):a≠b:=beq_eq_false_iff_ne.1 h
theorem SO {d:Dsk}{a:Int}(h:BI d=true) (h1:inR a 0 ((d.list.length:Int) - 2)=false∨EK d=true):[]=Ao d a:=by
 rw [Dp h,G8]
 rcases h1 with h1 | h1
 ·exact .inl h1
 ·rcases Nz h1 with h1 | h1
  ·exact .inr (.inl AB)
  ·exact .inr (.inr AB)
theorem Kd {d:Dsk}{n:Int}(hn:n∈d.list):BH d n∈(At d).parts:=by
 show _∈d.list.map (BH d)
 exact List.mem_map.2 ⟨n,hn,rfl⟩
theorem QR {d:Dsk}{at_ a b:Int}{f g:Fil}(hd:DD d) (h:BI d=true) (h1:inR at_ 0 ((d.list.length:Int) - 2)=true) (h2:EK d=false) (ha:d.list[at_.toNat]? = some a) (hb:d.list[(at_+1).toNat]? = some b) (hf:d.files[(Av d a).toNat]? = some f) (hg:d.files[(Av d b).toNat]? = some g) :
 [⟨1,d.next,(CL f.part g.part).1,[],[]⟩,⟨2,0,⟨[],[]⟩,(([]++(d.list.take at_.toNat).drop 0)++[d.next])++(d.list.take d.list.length).drop (at_+2).toNat,d.names⟩,⟨3,a,⟨[],[]⟩,[],[]⟩,⟨3,b,⟨[],[]⟩,[],[]⟩]=Ao d at_:=by
 have hx:=Ny h2
 have hk:=Ct h
 have:=hd.nf
 have hs:=hd.sd h
 have hso:=(FD h).2.1
 have e:=Jd hs hso (Kd (AV ha)) (Kd (AV hb))
 rw [ER hf,ER hg] at e
 rw [e,Dp h,KF h1 AB AB ha hb hf hg]
end Go.Proofs.YtggnnidleedpaaaGreat
namespace Go.Proofs.YtggnnidleedpaaaGreat
def DK (l:List Int):Nat→List Fil→Int
 | _,[]=>-1
 | i,f::fs=>if l.contains f.num then DK l (i+1) fs else i
theorem TP {l:List Int}{s:List Fil}{k:Nat}{f:Fil}(h:DK l k (s.drop k)=DK l 0 s) (hd:s.drop k=f::s.drop (k+1)) (hc:(!(l.contains f.num))=false):DK l (k+1) (s.drop (k+1))=DK l 0 s:=by
 rw [← h,hd]
 show _=if l.contains f.num then DK l (k+1) (s.drop (k+1)) else (k:Int)
 rw [if_pos (by simpa using hc)]
theorem QS {l:List Int}{s:List Fil}{k:Nat}{f:Fil}(h:DK l k (s.drop k)=DK l 0 s) (hd:s.drop k=f::s.drop (k+1)) (hc:(!(l.contains f.num))=true):(k:Int)=DK l 0 s:=by
 rw [← h,hd]
 show _=if l.contains f.num then DK l (k+1) (s.drop (k+1)) else (k:Int)
 rw [if_neg (by simpa using hc)]
theorem QT {l:List Int}{s:List Fil}{k:Nat}(h:DK l k (s.drop k)=DK l 0 s) (hk:s.length≤k):(-1:Int)=DK l 0 s:=by
 rw [Ab hk] at h
 exact h
theorem GO (l:List Int):∀ (s:List Fil) (i:Nat),(DK l i s = -1∧s.filter (fun f=>l.contains f.num)=s)∨∃ k:Nat,DK l i s=(i+k:Nat)∧k< s.length∧s.take k=(s.take (k+1)).filter (fun f=>l.contains f.num):=by
 intro s
 induction s with
 | nil=>intro i; exact .inl ⟨rfl,rfl⟩
 | cons f fs ih =>
   intro i
   unfold DK
   by_cases hc:l.contains f.num=true
   ·rw [if_pos hc]
    rcases ih (i+1) with ⟨h1,h2⟩ | ⟨k,h1,h2,h3⟩
    ·left
     refine ⟨h1,?_⟩
     rw [List.filter_cons,if_pos hc,h2]
    ·right
     refine ⟨k+1,by rw [h1]; omega,by simp; omega,?_⟩
     rw [List.take_succ_cons,List.take_succ_cons,List.filter_cons,if_pos hc,← h3]
   ·rw [if_neg hc]
    right
    refine ⟨0,by simp,by simp,?_⟩
    simp only [List.take_zero,Nat.zero_add,List.take_succ_cons]
    rw [List.filter_cons,if_neg hc]
    rfl
theorem N0 {l:List Int}{s:List Fil}(h:¬ DK l 0 s = -1):0≤DK l 0 s:=by
 rcases GO l s 0 with ⟨h1,_⟩ | ⟨k,h1,_⟩
 ·exact absurd h1 h
 ·omega
theorem N1 (l:List Int) (s:List Fil):DK l 0 s< s.length∨s.length=0∧DK l 0 s = -1:=by
 rcases GO l s 0 with ⟨h1,_⟩ | ⟨k,h1,h2,_⟩
 ·by_cases e:s.length=0
  ·exact .inr ⟨e,h1⟩
  ·exact .inl AB
 ·exact .inl AB
theorem Oq {l:List Int}{s:List Fil}(h:¬ DK l 0 s = -1):s.take (DK l 0 s).toNat=(s.take (DK l 0 s+1).toNat).filter (fun f=>l.contains f.num):=by
 rcases GO l s 0 with ⟨h1,_⟩ | ⟨k,h1,h2,h3⟩
 ·exact absurd h1 h
 ·rw [h1,show (((0+k:Nat):Int)).toNat=k by omega,show (((0+k:Nat):Int)+1).toNat=k+1 by omega]
  exact h3
theorem Ru {l:List Int}{s:List Fil}(h:DK l 0 s = -1):s=s.filter (fun f=>l.contains f.num):=by
 rcases GO l s 0 with ⟨_,h1⟩ | ⟨k,h1,h2,h3⟩
 ·exact h1.symm
 ·omega
theorem IN {α:Type}{a b:List α}{j:Nat}{x:α}(h:a.drop j=b.drop j) (hx:a[j]? = some x):b[j]? = some x:=by
 have h1:(a.drop j)[0]? = (b.drop j)[0]? := by rw [h]
 rw [List.getElem?_drop,List.getElem?_drop,Nat.add_zero] at h1
 rw [← h1]; exact hx
theorem Ke {α:Type}{b:List α}{j:Int}{x:α}(hj:0≤j) (hx:b[j.toNat]? = some x):b.take (j+1).toNat=b.take j.toNat++[x]:=by
 rw [show (j+1).toNat=j.toNat+1 by omega,List.take_add_one,hx]
 rfl
theorem QU {l:List Int}{xs xs0:List Fil}{i j:Int}{v:Fil}(h:xs.take i.toNat=(xs0.take j.toNat).filter (fun f=>l.contains f.num)) (h2:xs.drop j.toNat=xs0.drop j.toNat) (hv:xs[j.toNat]? = some v) (hi:0≤i) (hij:i< j) (hl:j< xs.length) (hc:(!(l.contains v.num))=false):(xs.set i.toNat v).take (i+1).toNat=(xs0.take (j+1).toNat).filter (fun f=>l.contains f.num):=by
 have h0:=IN h2 hv
 rw [Ke AB h0,List.filter_append,← h,List.filter_cons,if_pos (by simpa using hc),show (i+1).toNat=i.toNat+1 by omega,List.take_add_one,List.take_set_of_le (Nat.le_refl _),List.getElem?_set_self AB]
 rfl
theorem QV {l:List Int}{xs xs0:List Fil}{i j:Int}{v:Fil}(h:xs.take i.toNat=(xs0.take j.toNat).filter (fun f=>l.contains f.num)) (h2:xs.drop j.toNat=xs0.drop j.toNat) (hv:xs[j.toNat]? = some v) (hj:0≤j) (hc:(!(l.contains v.num))=true):xs.take i.toNat=(xs0.take (j+1).toNat).filter (fun f=>l.contains f.num):=by
 have h0:=IN h2 hv
 rw [Ke hj h0,List.filter_append,← h,List.filter_cons,if_neg (by simpa using hc)]
 simp
theorem Ot {xs xs0:List Fil}{i j:Int}{v:Fil}(h2:xs.drop j.toNat=xs0.drop j.toNat) (hi:0≤i) (hij:i< j) (_hj:0≤j):(xs.set i.toNat v).drop (j+1).toNat=xs0.drop (j+1).toNat:=by
 rw [List.drop_set_of_lt AB,show (j+1).toNat=j.toNat+1 by omega,← List.drop_drop,← List.drop_drop,h2]
theorem QW {xs xs0:List Fil}{j:Int}(h2:xs.drop j.toNat=xs0.drop j.toNat) (hj:0≤j):xs.drop (j+1).toNat=xs0.drop (j+1).toNat:=by
 rw [show (j+1).toNat=j.toNat+1 by omega,← List.drop_drop,← List.drop_drop,h2]
theorem Rv {l:List Int}{xs xs0:List Fil}{i j:Int}(h:xs.take i.toNat=(xs0.take j.toNat).filter (fun f=>l.contains f.num)) (h2:xs.drop j.toNat=xs0.drop j.toNat) (hj:(xs.length:Int)≤j) (hij:0≤j):xs.take i.toNat=xs0.filter (fun f=>l.contains f.num):=by
 rw [h]
 congr 1
 have h3:xs0.drop j.toNat=[]:=by rw [← h2]; exact List.drop_of_length_le AB
 rw [List.drop_eq_nil_iff] at h3
 exact List.take_of_length_le h3
end Go.Proofs.YtggnnidleedpaaaGreat
namespace Go.Proofs.YtggnnidleedpaaaGreat
set_option maxRecDepth 100000
set_option maxHeartbeats 4000000
variable {w:World} {F:Nat→Prop}
theorem IA {r n c i:Nat}{xs:List Fil}{a b:Int}(ho:Own w r 50 F n c xs) (ha:a=(i:Int)) (hb:b=(i:Int)+1) (hi:i< n) (hn:n≤1000000):Calls Tryz.prog 143 [.slice (some ⟨r,0,none⟩) n c,.int .i64 a,.int .i64 b].toArray w (BB fun rv w'=>(rv=.slice (some ⟨r,0,none⟩) (n - 1) c∧Own w' r 50 F (n - 1) c (xs.take i++xs.drop (i+1)))∧Chg (one r) w w'):=by
 subst ha hb
 refine goT func143 ?_
 have hle:=ho.le
 obtain ⟨cs,hB,hl⟩:=ho.Sz
 have hz:Rep.sz Fil=3:=rfl
 rw [hz] at hl
 refine .s<|.g<|.r 1<|.d<|.s<|.g<|.r 5<|RG.Tv (t:=33) (k:=.i64) (k2:=.i64) (k3:=.i64) (a:=some ⟨r,0,none⟩) (len:=n) (cap:=c) (i1:=(i:Int)) (i2:=(i:Int)+1) (i3:=(n:Int)) (sz:=3) i (i+1) n AA AA rfl AB rfl AB AB hle fun v_=>.d<|.s<|.s<|.g<|.r 2<|.eq (i:Int) ((i:Int)+1) (fun h=>absurd (show False by omega) id) fun _=>.d<|.cf<|.sk<|.s<|.g<|.r 3<|.d<|.s<|.gd (one r) 7 fun w1 hx1=>?_
 refine .r [0,1]<|GA.GR (i:=2) (t:=33) (r:=r) (o:=0) (len:=n) (cap:=c) (lo:=none) (hi:=some (vI (i:Int))) (sz:=3) 0 i AA AA AA (.inl ⟨rfl,rfl⟩) (.inr ⟨_,_,rfl,rfl⟩) AB AB AB<|.r [3,4]<|GA.Tw (i:=5) (t:=33) (r:=r) (len:=n) (cap:=c) (lo:=some (vI ((i:Int)+1))) (hi:=none) (sz:=3) (i+1) n AA AA AA (.inr ⟨_,_,rfl,by omega⟩) (.inl ⟨rfl,rfl⟩) AB AB fun a2 c2 h2=>?_
 refine .go 6<|GE.append (T:=33) (ty:=33) (args:=[.slice (some ⟨r,0,none⟩) i c,.slice a2 (n - (i+1)) c2]) AA fun w2 hx2=>?_
 have hx12:Ext w w2:=hx1.trans hx2
 have m1:(i+1) * 3+(n - (i+1)) * 3=n * 3:=by omega
 have hB2:=hB.ext hx12
 obtain ⟨w3,hr,hB3,hx3⟩:=L9 (P:=Tryz.prog) (T:=33) (ty:=33) (t:=50) (sz:=3) (i:=i) (c:=c) (m:=n - (i+1)) (c':=c2) (a2:=a2) (vs:=(cs.drop ((i+1) * 3)).take ((n - (i+1)) * 3)) AA hB2
  (fun hp=>⟨_,h2 hp,fun k u hu=>by
   rw [add_lit]
   unfold Box at hB2
   simp only [World.cell?,hB2]
   rw [List.getElem?_take] at hu
   split at hu
   ·rw [List.getElem?_drop] at hu
    simpa using hu
   ·cases hu⟩) (by rw [List.length_take,List.length_drop]; omega) AB (by rw [List.length_take,List.length_drop]; omega) (fun v hv=>ho.UY (i:=i+1) hB v AB hv)
 refine ⟨_,w3,hr,hx3,.d fun w4 hx4=>.r 1<|.d<|.s<|.g<|.r 4<|?_⟩
 have hB4:=hB3.ext hx4
 have hlen:i+(n - (i+1))=n - 1:=by omega
 rw [hlen]
 refine RG.GR (t:=33) (r:=r) (o:=0) (len:=n - 1) (cap:=c) (lo:=some (vI ((n - 1:Nat):Int))) (hi:=some (vI (n:Int))) (sz:=3) (n - 1) n AA AA (.inr ⟨_,_,rfl,rfl⟩) (.inr ⟨_,_,rfl,rfl⟩) AB AB AB ?_
 have h1:n - (n - 1)=1:=by omega
 rw [h1]
 have hl4:(BQ cs (i * 3) ((cs.drop ((i+1) * 3)).take ((n - (i+1)) * 3))).length=c * 3:=by rw [Di (by rw [List.length_take,List.length_drop]; omega)]; exact hl
 obtain ⟨vs,w5,hr5,hv5,hB5,hx5⟩:=MA (P:=Tryz.prog) (T:=33) (ty:=0) (t:=50) (sz:=3) (o:=0+(n - 1) * 3) (c:=c - (n - 1)) AA hB4 AB
 rw [Nat.zero_add] at hB5
 have hd:=KY (sz:=3) hl hi hle rfl hv5
 have hx:Chg (one r) w w5:=(((hx12.chg (S:=one r)).trans hx3).trans hx4.chg).trans hx5
 refine RG.clear (ats:=[33]) (ty:=0) (args:=[.slice (some ⟨r,0+(n - 1) * 3,none⟩) 1 (c - (n - 1))]) AA hr5<|.d<|.s<|.g<|.r 2<|.d<|.rt func143 results143 (.slice (some ⟨r,0,none⟩) (n - 1) c) ⟨⟨rfl,Own.P6 ho hx hB hB5 (by rw [hz]; exact hd.1) hi (by rw [hz]; exact hd.2)⟩,hx⟩
end Go.Proofs.YtggnnidleedpaaaGreat
