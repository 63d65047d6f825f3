/- walks; hints pruned; squeezed -/
import Derived.Test.YtganlmloonielaaGreatTazMod40k10
import Derived.Test.YtganlmloonielaaGreatTazMod43k23
import Derived.Test.YtganlmloonielaaGreatTazMod52k24
import Derived.Test.YtganlmloonielaaGreatTazMod57k25
set_option linter.unusedVariables false
set_option linter.unusedSimpArgs false
namespace Go.Proofs.YtganlmloonielaaGreat
set_option maxRecDepth 100000
set_option maxHeartbeats 4000000
theorem CE (s:Sto) {w:World} {F:Nat→Prop} {a1:Option Addr} {n1 c1:Nat} (h1:RepS w F a1 n1 c1 s.idx.names) {a2:Option Addr} {n2 c2:Nat} (h2:RepS w F a2 n2 c2 s.idx.AV) {a3:Option Addr} {n3 c3:Nat} (h3:RepS w F a3 n3 c3 s.parts) {a4:Option Addr} {n4 c4:Nat} (h4:RepS w F a4 n4 c4 s.mem) (p0:∀ m∈s.mem,Bw m.row=true) (p1:∀ m∈s.mem,1≤m.id∧m.id≤6) (p2:s.mem.length≤1000):Calls Tryz.prog 53 [.agg #[.slice a1 n1 c1,.slice a2 n2 c2,.slice a3 n3 c3,.slice a4 n4 c4]].toArray w (As fun rv w'=>VS (ge w.heap.size) w' (BK s.mem:Prt) rv∧Ext w w'):=by
 refine goT Tryz.func53 ?_
 obtain ⟨rfl,cV,h1⟩:=h1.tp
 obtain ⟨rfl,cW,h2⟩:=h2.tp
 obtain ⟨rfl,cX,h3⟩:=h3.tp
 obtain ⟨rfl,cY,h4⟩:=h4.tp
 refine .s<|.g<|.np 34 [.slice a1 s.idx.names.length c1,.slice a2 s.idx.AV.length c2,.slice a3 s.parts.length c3,.slice a4 s.mem.length c4] fun ab dy ba aJ J b0=>?_
 replace h4:=(sn [] aJ ba).g1 h4
 have C:=aJ
 refine .np 42 [.slice none 0 0,.slice none 0 0] fun ae dz aK bc E b6=>?_
 have cZ:=C.cn aK
 replace ⟨h4,J,C⟩:=(sn [ab] bc aK).g3 h4 J C
 refine .d<|.s<|.g<|.ns 0 3 [] fun al cB aC bd b7 b8=>?_
 have b9:=AS aC J.lt
 have cd:=AS aC E.lt
 have ce:=Ad aC C.size
 have cg:=C.cn aC
 replace ⟨h4,J,E,C⟩:=(sn [ae,ab] bd aC).g4 h4 J E C
 have ar:Own (α:=Int) cB al 3 (nin (ge w.heap.size) [al,ae,ab]) 0 0 []:=Own.Ag b7
 refine .ns 0 91 [] fun ay cC az bg ci cj=>?_
 have ck:=AS az J.lt
 have cm:=AS az E.lt
 have co:=AS az ar.lt
 have cp:=Ad az C.size
 have cq:=C.cn az
 replace ⟨h4,J,E,ar,C⟩:=(sn [al,ae,ab] bg az).g5 h4 J E ar C
 have aD:Own (α:=List Row) cC ay 91 (nin (ge w.heap.size) [ay,al,ae,ab]) 0 0 []:=Own.Ag ci
 refine .r 1<|.np 42 [.slice none 0 0,.slice none 0 0] fun ac dA aA bh cr cu=>?_
 have c7:=AS aA J.lt
 have c8:=AS aA E.lt
 have cv:=AS aA ar.lt
 have cw:=AS aA aD.lt
 have c9:=C.cn aA
 replace ⟨h4,J,E,ar,aD,C⟩:=(sn [ay,al,ae,ab] bh aA).g6 h4 J E ar aD C
 refine .sc [vS al 0 0,vS ay 0 0] cr fun aG bi aL cx=>?_
 replace ⟨h4,J,E,ar,aD,C⟩:=(so [ac,ay,al,ae,ab] bi).g6 h4 J E ar aD C
 refine .d<|.s<|.s<|.g<|.r 1<|.d<|.b 0<|T.loop (X:=Nat × (List Int) × Nat × Nat × Nat × (List (List Row)) × Nat × Nat × Nat) (1,([]:List Int),al,0,0,([]:List (List Row)),ay,0,0) (fun (id,ah,r_out_0,n_out_0,c_out_0,ai,r_out_1,n_out_1,c_out_1)=>[(1,.pointer (some ⟨ab,0,none⟩)),(2,.pointer (some ⟨ae,0,none⟩)),(3,.pointer (some ⟨ac,0,none⟩)),(4,vI (id:Int))]) (fun (id,ah,r_out_0,n_out_0,c_out_0,ai,r_out_1,n_out_1,c_out_1) aE=>Chg (ins [al,ay,ac]) aG aE∧Own aE r_out_0 3 (nin (ge w.heap.size) [ac,r_out_1,r_out_0,ae,ab]) n_out_0 c_out_0 ah∧OrB r_out_0 al aG.heap.size∧Own aE r_out_1 91 (nin (ge w.heap.size) [ac,r_out_1,r_out_0,ae,ab]) n_out_1 c_out_1 ai∧OrB r_out_1 ay aG.heap.size∧Nb r_out_1 r_out_0∧Box aE ac 42 [vS r_out_0 n_out_0 c_out_0,vS r_out_1 n_out_1 c_out_1]∧(1≤id)∧(id≤7)∧(ah.length≤id)∧(ai.length≤id)∧(ah=(BY 0 (DS s.mem (id - 1))).1)∧(ai=(BY 0 (DS s.mem (id - 1))).2)) (fun (id,ah,r_out_0,n_out_0,c_out_0,ai,r_out_1,n_out_1,c_out_1)=>7 - id) AA ⟨AA,AA,AA,AA,trivial⟩ ⟨Chg.refl _ _,ar,BJ,aD,BJ,co,aL,AB,AB,(by (simp; done)),(by (simp; done)),(by rfl),(by rfl)⟩ ?_
 rintro ⟨id,ah,r_out_0,n_out_0,c_out_0,ai,r_out_1,n_out_1,c_out_1⟩ dB aE ⟨aa,af,au,O,av,bj,ag,da,db,de,df,dg,dh⟩ aF
 have dj:=Aw au b9 J.lt
 have dm:=Aw au cd E.lt
 have br:=Aw au (Nb.symm cv) aL.lt
 have bt:=Bv au ce C.size
 have cD:=Ar au cg C.size
 have cE:=Aw av ck J.lt
 have cF:=Aw av cm E.lt
 have bu:=Aw av (Nb.symm cw) aL.lt
 have bv:=Bv av cp C.size
 have cG:=Ar av cq C.size
 have bw:Cov (ins [al,ay,ac]) aG al:=⟨.inl AD⟩
 have bz:Cov (ins [al,ay,ac]) aG ay:=⟨.inl AE⟩
 have cH:Cov (ins [al,ay,ac]) aG ac:=⟨.inl AF⟩
 have cI:=Ar au bw (Nat.le_refl _)
 have cJ:=Ar av bz (Nat.le_refl _)
 have aM:Mv [ac,ay,al,ae,ab] [ac,r_out_1,r_out_0,ae,ab] aG aE:=Mv.inl aa (all_cons AF (all_cons AE (all_cons AD all_nil))) (all_cons (.inl AD) (all_cons (BV av AE) (all_cons (BV au AF) (all_cons (.inl AG) (all_cons (.inl AH) all_nil)))))
 replace ⟨h4,J,E,C⟩:=(sp aM aa).g4 h4 J E C
 have cK:=af.len; have cL:=af.max
 have cM:=O.len; have cN:=O.max
 refine .s<|.s<|.g<|.r 1<|.bp ((id:Int)≤6) (fun bA=>?_) (fun bA=>?_)
 ·refine .d<|.ct<|.sk<|.s<|.b 1<|.s<|.g<|.r 1<|.lb J<|.r 2<|.cl (D1 (⟨(⟨([]:List (List Tag)),([]:List Pst)⟩:Idx),([]:List Prt),s.mem⟩:Sto) (id:Int) (RepS.Ag _ all none 0 (by decide)) (RepS.Ag _ all none 0 (by decide)) (RepS.Ag _ all none 0 (by decide)) h4.ta (by simp) p0 (by simp) p2 (w:=aE) (F:=all)) ?_
  rintro dp dq ⟨⟨cy,cz,rfl,aj⟩,aN⟩
  have aO:=al5 ag.lt O.lt af.lt E.lt J.lt
  have bB:Gb w.heap.size aE.heap.size:=C.size
  replace ⟨J,E,af,O,ag,C,aa⟩:=(se [ac,r_out_1,r_out_0,ae,ab] aN).g7 J E af O ag C aa
  have aj:=aj.fr aO bB
  have cO:=aj.max
  refine .r 1<|.d<|.s<|.g<|.r 2<|.bp ((((rowsOf (⟨(⟨([]:List (List Tag)),([]:List Pst)⟩:Idx),([]:List Prt),s.mem⟩:Sto) (id:Int)).length):Int) > 0) (fun bC=>?_) (fun bC=>.d<|.cf<|.sk<|.ib 1<|.g<|.r 1<|.it ((id:Int)+1)<|.r 1<|.d<|aF (id+1,ah,r_out_0,n_out_0,c_out_0,ai,r_out_1,n_out_1,c_out_1) _ _ ⟨AA,AA,AA,AA,trivial⟩ ⟨aa,af,au,O,av,bj,ag,AB,AB,AB,AB,(by exact S9 ‹_› AB ‹_›),(by exact TB ‹_› AB ‹_›)⟩ (by (simp only []; omega)))
  refine .d<|.ct<|.s<|.g<|.r 1<|.lb ag<|.r 1<|.ns 1 3 [vI (id:Int)] fun bk dr am aP bD bE=>?_
  have bF:=AS am J.lt
  have bG:=AS am E.lt
  have aQ:=AS am af.lt
  have bH:=AS am O.lt
  have bI:=AS am ag.lt
  have bJ:=Ad am C.size
  replace ⟨J,E,af,O,ag,aj,C,aa⟩:=(se [ac,r_out_1,r_out_0,ae,ab] aP).g8 J E af O ag aj C aa
  have aH:nin (ge w.heap.size) [ac,r_out_1,r_out_0,ae,ab] bk∧bk≠r_out_0:=BG bJ (all_cons bI (all_cons bH (all_cons aQ (all_cons bG (all_cons bF all_nil))))) aQ
  refine RG.Ap (T:=24) (ty:=24) (y:=(id:Int)) af bD AA AA rfl aH AB fun aB bm dt W aw aR=>?_
  have bK:=Ae aw (Nb.symm bj) O.lt
  have cP:=Ae aw br ag.lt
  have bL:=Bo aw au aa.size
  replace ⟨J,E,O,ag,aj,C,aa⟩:=(sa [ac,r_out_1,r_out_0,ae,ab] aR aw).g7 J E O ag aj C aa
  replace W:=W.rn r_out_0
  have cQ:=W.len; have cR:=W.max
  refine .r 1<|.ss 0 (vS aB (n_out_0+1) bm) ag fun du aS ak bM=>?_
  replace ⟨J,E,W,O,aj,C,aa⟩:=(so [ac,r_out_1,aB,ae,ab] aS).g7 J E W O aj C aa
  refine .d<|.g<|.r 1<|.lb ak<|.r 1<|.ns 1 91 [.slice cy ((rowsOf (⟨(⟨([]:List (List Tag)),([]:List Pst)⟩:Idx),([]:List Prt),s.mem⟩:Sto) (id:Int)).length) cz] fun bn dv ao aT bN bO=>?_
  have bP:=AS ao J.lt
  have bQ:=AS ao E.lt
  have bR:=AS ao W.lt
  have aU:=AS ao O.lt
  have bS:=AS ao ak.lt
  have bT:=Ad ao C.size
  replace ⟨E,W,O,ak,aj,C,aa⟩:=(se [ac,r_out_1,aB,ae,ab] aT).g7 E W O ak aj C aa
  have aI:nin (ge w.heap.size) [ac,r_out_1,aB,ae,ab] bn∧bn≠r_out_1:=BG bT (all_cons bS (all_cons aU (all_cons bR (all_cons bQ (all_cons bP all_nil))))) aU
  refine RG.Ap (T:=40) (ty:=40) (y:=rowsOf (⟨(⟨([]:List (List Tag)),([]:List Pst)⟩:Idx),([]:List Prt),s.mem⟩:Sto) (id:Int)) O bN AA AA ⟨_,_,_,rfl,aj.oi⟩ aI AB fun aV bo dw aq ax aW=>?_
  have bU:=Ae ax (Nb.symm bK) W.lt
  have cS:=Ae ax bu ak.lt
  have bV:=Bo ax av aa.size
  replace ⟨E,W,ak,C,aa⟩:=(sa [ac,r_out_1,aB,ae,ab] aW ax).g5 E W ak C aa
  replace aq:=aq.rn r_out_1
  have cT:=aq.len; have cU:=aq.max
  refine .r 1<|.ss 1 (vS aV (n_out_1+1) bo) ak fun dx aX bW bX=>?_
  replace ⟨E,W,aq,C,aa⟩:=(so [ac,aV,aB,ae,ab] aX).g5 E W aq C aa
  exact .d<|.ib 1<|.g<|.r 1<|.it ((id:Int)+1)<|.r 1<|.d<|aF (id+1,(ah++[(id:Int)]),aB,n_out_0+1,bm,(ai++[rowsOf (⟨(⟨([]:List (List Tag)),([]:List Pst)⟩:Idx),([]:List Prt),s.mem⟩:Sto) (id:Int)]),aV,n_out_1+1,bo) _ _ ⟨AA,AA,AA,AA,trivial⟩ ⟨aa,W,bL,aq,bV,bU,bW,AB,AB,AB,AB,(by exact S8 ‹_› AB ‹_›),(by exact TA ‹_› AB ‹_›)⟩ (by (simp only []; omega))
 refine .d<|.cf<|.x 0 rfl<|.s<|.g<|.ln ag<|.sc [vS r_out_0 n_out_0 c_out_0,vS r_out_1 n_out_1 c_out_1] E fun bq aY bY bZ=>?_
 replace ⟨af,O,C⟩:=(so [ac,r_out_1,r_out_0,ae,ab] aY).g3 af O C
 refine .d ?_
 have aZ:=af.sl bt
 replace O:=(sd bq [ac,r_out_1,r_out_0,ae,ab] r_out_0).g1 O
 have cA:=O.sl bv
 replace aZ:=(sd bq [ac,r_out_1,ae,ab] r_out_1).g1 aZ
 exact .rb Tryz.func53 Tryz.results53 bY ⟨(VS.of (y:=(⟨ah,ai⟩:Prt)) ⟨_,rfl,⟨_,_,_,_,_,_,rfl,aZ.w1,cA.w1⟩⟩ (by exact Vf (k:=id) p1 AB ‹_› ‹_›)),C⟩
end Go.Proofs.YtganlmloonielaaGreat
namespace Go.Proofs.YtganlmloonielaaGreat
theorem Ut {d:Dsk} {s y:Sto} (hy:D8 d y) (h:(s.parts==y.parts)=false):false=CQ d s:=OA (fun e=>by
 have e2:s.parts=y.parts:=e.trans hy.2.1.symm
 rw [e2] at h
 simp at h)
theorem Uu {d:Dsk} {s y:Sto} (hy:D8 d y) (h:(s.parts==y.parts)=true):s.parts=d.list.map (BD d):=(eq_of_beq h).trans hy.2.1
theorem Uv {d:Dsk} {s:Sto} (h:¬ (d.names.length:Int)≤s.idx.names.length):false=CQ d s:=O3 AB
theorem Uw {d:Dsk} {s y:Sto} {l:List (List Tag)} (hy:D8 d y) (h1:Af d=true) (h2:(nmB s.idx.names&&Ak s)=true) (h3:(s.parts==y.parts)=true) (hl:l=s.idx.names.take d.names.length):(d.names==l)=CQ d s:=by
 subst hl
 by_cases e:d.names=s.idx.names.take d.names.length
 ·rw [beq_iff_eq.2 e]
  exact Kc h1 h2 (Uu hy h3) e
 ·rw [beq_eq_false_iff_ne.2 e]
  exact OB e
theorem Vo {d:Dsk} {s:Sto} (h:CQ d s=false):[]=BA d s:=(Kd h).symm
theorem Ux {d:Dsk} {s:Sto} (h:(s.mem.length:Int)=0∨(d.list.length:Int)=6∨Ej d=true):[]=BA d s:=by
 cases hf:CQ d s with
 | false=>exact Vo hf
 | true =>
   rw [IH hf,E0]
   rcases h with h | h | h
   ·exact .inl h
   ·exact .inr (.inl AB)
   ·rcases O5 h with h | h
    ·exact .inr (.inr (.inl AB))
    ·exact .inr (.inr (.inr AB))
theorem WL {d:Dsk} {s:Sto} (hf:CQ d s=true) (h1:¬ (s.mem.length:Int)=0) (h2:¬ (d.list.length:Int)=6) (h3:Ej d=false) (hd:DD d):[⟨1,d.next,BK s.mem,[],[]⟩,⟨2,0,⟨[],[]⟩,d.list++[d.next],s.idx.names⟩]=BA d s:=by
 have hk:=(C1 hf).dk
 have:=(CU hk).2.1
 have:=(CU hk).1
 have:=hd.nf
 have:=O4 h3
 rw [IH hf,FF h1 AB AB AB]
theorem C9 {d:Dsk} {s:Sto} (hs:SG s) (h:CQ d s=true):SD s:=by
 obtain ⟨h1,h2,h3,h4,h5⟩:=C1 h
 exact hs.sd h2 (L5 h3)
end Go.Proofs.YtganlmloonielaaGreat
namespace Go.Proofs.YtganlmloonielaaGreat
set_option maxRecDepth 100000
set_option maxHeartbeats 4000000
theorem EA (a:List Row) (b:List Row) {w:World} {F:Nat→Prop} {a1:Option Addr} {n1 c1:Nat} (h1:RepS w F a1 n1 c1 a) {a2:Option Addr} {n2 c2:Nat} (h2:RepS w F a2 n2 c2 b)  : Calls Tryz.prog 144 [.slice a1 n1 c1,.slice a2 n2 c2].toArray w (As fun rv w'=>rv=.bool ((a==b))∧Ext w w'):=by
 refine goT Tryz.func144 ?_
 obtain ⟨rfl,ar,h1⟩:=h1.tp
 obtain ⟨rfl,au,h2⟩:=h2.tp
 refine .s<|.g<|.r 1<|.d<|.s<|.s<|.g<|.r 4<|.ne (a.length:Int) (b.length:Int) (fun ah=>.d<|.ct<|.s<|.g<|.r 1<|.d<|.rt Tryz.func144 Tryz.results144 (.bool false) ⟨(congrArg Value.bool (by grind [AY])),(Chg.refl _ _)⟩) fun ah=>.d<|.cf<|.sk<|.s<|.s<|.g<|.r 3<|.d<|.b 0<|T.loop (X:=Nat) 0 (fun k=>[(0,.slice a1 a.length c1),(1,.slice a2 b.length c2),(12,vI (a.length:Int)),(13,vI (k:Int))]) (fun k aa=>Chg (ins []) w aa∧(k≤a.length)∧(a.drop k=b.drop k↔a=b)) (fun k=>a.length - k) AA ⟨AA,AA,AA,AA,trivial⟩ ⟨Chg.refl _ _,(by simp),(by simp)⟩ ?_
 rintro k aA aa ⟨C,av,aw⟩ J
 have ab:Mv [] [] w aa:=Mv.inl C all_nil all_nil
 replace ⟨h1,h2⟩:=(sp ab C).g2 h1 h2
 have E:Chg nil w aa:=Chg.CY (Chg.refl nil w) C all_nil
 refine .s<|.g<|.bp ((k:Int)< (a.length:Int)) (fun ai=>?_) (fun ai=>.d<|.s<|.cf<|.x 0 rfl<|.s<|.g<|.r 1<|.d<|.rt Tryz.func144 Tryz.results144 (.bool true) ⟨(congrArg Value.bool (by grind [AY])),E⟩)
 refine .d<|.s<|.ct<|.sk<|.s<|.b 1<|.s<|.g<|.r 2<|.d<|.s<|.gd nil 8 fun aB ac=>?_
 replace ⟨h1,h2,E,C⟩:=(se [] ac).g4 h1 h2 E C
 refine .r [0,1] ?_
 have aj:k< a.length:=AB
 refine .ix 2 k 2 h1 aj ?_
 obtain ⟨af,O⟩:∃ y,a[k]? = some y:=⟨_,AP AB⟩
 have ax:=AX O; have ao:=AQ O
 obtain ⟨_,rfl,ak⟩:=h1.elem k af O
 refine .lg 3 0 ak id<|.r [4,5] ?_
 have al:k< b.length:=AB
 refine .ix 6 k 2 h2 al ?_
 obtain ⟨ag,W⟩:∃ y,b[k]? = some y:=⟨_,AP AB⟩
 have ay:=AX W; have aq:=AQ W
 obtain ⟨_,rfl,am⟩:=h2.elem k ag W
 refine .lg 7 0 am id<|.d fun aC ae=>?_
 replace ⟨E,C⟩:=(se [] ae).g2 E C
 refine RG.QI (t:=105) (x:=af) (y:=ag) AA AA ?_
 cases az:(af==ag)
 ·exact .d<|.ct<|.s<|.g<|.r 1<|.d<|.rt Tryz.func144 Tryz.results144 (.bool false) ⟨(congrArg Value.bool (by grind [AY])),E⟩
 exact .d<|.cf<|.sk<|.ib 1<|.g<|.it ((k:Int)+1)<|.r 1<|.d<|J (k+1) _ _ ⟨AA,AA,AA,AA,trivial⟩ ⟨C,AB,(by grind)⟩ AB
theorem HY (s1:List (List Row)) (s2:List (List Row)) {w:World} {F:Nat→Prop} {a1:Option Addr} {n1 c1:Nat} (h1:RepS w F a1 n1 c1 s1) {a2:Option Addr} {n2 c2:Nat} (h2:RepS w F a2 n2 c2 s2)  : Calls Tryz.prog 143 [.slice a1 n1 c1,.slice a2 n2 c2,.func (.func 144) #[] #[]].toArray w (As fun rv w'=>rv=.bool ((s1==s2))∧Ext w w'):=by
 refine goT Tryz.func143 ?_
 obtain ⟨rfl,aw,h1⟩:=h1.tp
 obtain ⟨rfl,ax,h2⟩:=h2.tp
 refine .s<|.g<|.r 1<|.d<|.s<|.s<|.g<|.r 4<|.ne (s1.length:Int) (s2.length:Int) (fun ai=>.d<|.ct<|.s<|.g<|.r 1<|.d<|.rt Tryz.func143 Tryz.results143 (.bool false) ⟨(congrArg Value.bool (by grind [AY])),(Chg.refl _ _)⟩) fun ai=>.d<|.cf<|.sk<|.s<|.s<|.g<|.r 3<|.d<|.b 0<|T.loop (X:=Nat) 0 (fun k=>[(1,.slice a2 s2.length c2),(2,.func (.func 144) #[] #[]),(15,.slice a1 s1.length c1),(16,vI (s1.length:Int)),(17,vI (k:Int))]) (fun k J=>Chg (ins []) w J∧(k≤s1.length)∧(s1.drop k=s2.drop k↔s1=s2)) (fun k=>s1.length - k) AA ⟨AA,AA,AA,AA,AA,trivial⟩ ⟨Chg.refl _ _,(by simp),(by simp)⟩ ?_
 rintro k aF J ⟨C,ay,az⟩ O
 have ab:Mv [] [] w J:=Mv.inl C all_nil all_nil
 replace ⟨h1,h2⟩:=(sp ab C).g2 h1 h2
 have E:Chg nil w J:=Chg.CY (Chg.refl nil w) C all_nil
 refine .s<|.g<|.bp ((k:Int)< (s1.length:Int)) (fun aj=>?_) (fun aj=>.d<|.s<|.cf<|.x 0 rfl<|.s<|.g<|.r 1<|.d<|.rt Tryz.func143 Tryz.results143 (.bool true) ⟨(congrArg Value.bool (by grind [AY])),E⟩)
 refine .d<|.s<|.ct<|.sk<|.s<|.b 1<|.s<|.g<|.r 1 ?_
 have ak:k< s1.length:=AB
 refine .ix k 1 h1 ak ?_
 obtain ⟨ae,W⟩:∃ y,s1[k]? = some y:=⟨_,AP AB⟩
 have aA:=AX W; have au:=AQ W
 obtain ⟨_,⟨aG,aH,aI,rfl,af⟩,al⟩:=h1.elem k ae W
 have am:=af.len
 subst am
 have aB:=af.max
 refine .lh 0 al<|.r 2<|.d<|.s<|.g<|.r 2 ?_
 have ao:k< s2.length:=AB
 refine .ix k 1 h2 ao ?_
 obtain ⟨ag,aa⟩:∃ y,s2[k]? = some y:=⟨_,AP AB⟩
 have aC:=AX aa; have av:=AQ aa
 obtain ⟨_,⟨aJ,aK,aL,rfl,ah⟩,aq⟩:=h2.elem k ag aa
 have ar:=ah.len
 subst ar
 have aD:=ah.max
 refine .lh 0 aq<|.r 1<|.d<|.s<|.g<|.r 3<|.cl (EA ae ag af.ta ah.ta (w:=J) (F:=all)) ?_
 rintro aM aN ⟨rfl,ac⟩
 replace ⟨E,C⟩:=(se [] ac).g2 E C
 cases aE:(ae==ag)
 ·exact .r 1<|.d<|.ct<|.s<|.g<|.r 1<|.d<|.rt Tryz.func143 Tryz.results143 (.bool false) ⟨(congrArg Value.bool (by grind [AY])),E⟩
 exact .r 1<|.d<|.cf<|.sk<|.ib 1<|.g<|.it ((k:Int)+1)<|.r 1<|.d<|O (k+1) _ _ ⟨AA,AA,AA,AA,AA,trivial⟩ ⟨C,AB,(by grind)⟩ AB
theorem II (s1:List (List Tag)) (s2:List (List Tag)) {w:World} {F:Nat→Prop} {a1:Option Addr} {n1 c1:Nat} (h1:RepS w F a1 n1 c1 s1) {a2:Option Addr} {n2 c2:Nat} (h2:RepS w F a2 n2 c2 s2)  : Calls Tryz.prog 95 [.slice a1 n1 c1,.slice a2 n2 c2,.func (.func 96) #[] #[]].toArray w (As fun rv w'=>rv=.bool ((s1==s2))∧Ext w w'):=by
 refine goT Tryz.func95 ?_
 obtain ⟨rfl,aw,h1⟩:=h1.tp
 obtain ⟨rfl,ax,h2⟩:=h2.tp
 refine .s<|.g<|.r 1<|.d<|.s<|.s<|.g<|.r 4<|.ne (s1.length:Int) (s2.length:Int) (fun ai=>.d<|.ct<|.s<|.g<|.r 1<|.d<|.rt Tryz.func95 Tryz.results95 (.bool false) ⟨(congrArg Value.bool (by grind [AY])),(Chg.refl _ _)⟩) fun ai=>.d<|.cf<|.sk<|.s<|.s<|.g<|.r 3<|.d<|.b 0<|T.loop (X:=Nat) 0 (fun k=>[(1,.slice a2 s2.length c2),(2,.func (.func 96) #[] #[]),(15,.slice a1 s1.length c1),(16,vI (s1.length:Int)),(17,vI (k:Int))]) (fun k J=>Chg (ins []) w J∧(k≤s1.length)∧(s1.drop k=s2.drop k↔s1=s2)) (fun k=>s1.length - k) AA ⟨AA,AA,AA,AA,AA,trivial⟩ ⟨Chg.refl _ _,(by simp),(by simp)⟩ ?_
 rintro k aF J ⟨C,ay,az⟩ O
 have ab:Mv [] [] w J:=Mv.inl C all_nil all_nil
 replace ⟨h1,h2⟩:=(sp ab C).g2 h1 h2
 have E:Chg nil w J:=Chg.CY (Chg.refl nil w) C all_nil
 refine .s<|.g<|.bp ((k:Int)< (s1.length:Int)) (fun aj=>?_) (fun aj=>.d<|.s<|.cf<|.x 0 rfl<|.s<|.g<|.r 1<|.d<|.rt Tryz.func95 Tryz.results95 (.bool true) ⟨(congrArg Value.bool (by grind [AY])),E⟩)
 refine .d<|.s<|.ct<|.sk<|.s<|.b 1<|.s<|.g<|.r 1 ?_
 have ak:k< s1.length:=AB
 refine .ix k 1 h1 ak ?_
 obtain ⟨ae,W⟩:∃ y,s1[k]? = some y:=⟨_,AP AB⟩
 have aA:=AX W; have au:=AQ W
 obtain ⟨_,⟨aG,aH,aI,rfl,af⟩,al⟩:=h1.elem k ae W
 have am:=af.len
 subst am
 have aB:=af.max
 refine .lh 0 al<|.r 2<|.d<|.s<|.g<|.r 2 ?_
 have ao:k< s2.length:=AB
 refine .ix k 1 h2 ao ?_
 obtain ⟨ag,aa⟩:∃ y,s2[k]? = some y:=⟨_,AP AB⟩
 have aC:=AX aa; have av:=AQ aa
 obtain ⟨_,⟨aJ,aK,aL,rfl,ah⟩,aq⟩:=h2.elem k ag aa
 have ar:=ah.len
 subst ar
 have aD:=ah.max
 refine .lh 0 aq<|.r 1<|.d<|.s<|.g<|.r 3<|.cl (Ch ae ag af.ta ah.ta (w:=J) (F:=all)) ?_
 rintro aM aN ⟨rfl,ac⟩
 replace ⟨E,C⟩:=(se [] ac).g2 E C
 cases aE:(ae==ag)
 ·exact .r 1<|.d<|.ct<|.s<|.g<|.r 1<|.d<|.rt Tryz.func95 Tryz.results95 (.bool false) ⟨(congrArg Value.bool (by grind [AY])),E⟩
 exact .r 1<|.d<|.cf<|.sk<|.ib 1<|.g<|.it ((k:Int)+1)<|.r 1<|.d<|O (k+1) _ _ ⟨AA,AA,AA,AA,AA,trivial⟩ ⟨C,AB,(by grind)⟩ AB
theorem Ji (a:Prt) (b:Prt) {w:World} {F:Nat→Prop} {a1:Option Addr} {n1 c1:Nat} (h1:RepS w F a1 n1 c1 a.ids) {a2:Option Addr} {n2 c2:Nat} (h2:RepS w F a2 n2 c2 a.blocks) {a3:Option Addr} {n3 c3:Nat} (h3:RepS w F a3 n3 c3 b.ids) {a4:Option Addr} {n4 c4:Nat} (h4:RepS w F a4 n4 c4 b.blocks)  : Calls Tryz.prog 94 [.agg #[.slice a1 n1 c1,.slice a2 n2 c2],.agg #[.slice a3 n3 c3,.slice a4 n4 c4]].toArray w (As fun rv w'=>rv=.bool ((a==b))∧Ext w w'):=by
 refine goT Tryz.func94 ?_
 obtain ⟨rfl,al,h1⟩:=h1.tp
 obtain ⟨rfl,am,h2⟩:=h2.tp
 obtain ⟨rfl,ao,h3⟩:=h3.tp
 obtain ⟨rfl,aq,h4⟩:=h4.tp
 refine .s<|.g<|.np 42 [.slice a1 a.ids.length c1,.slice a2 a.blocks.length c2] fun af au W O E ag=>?_
 replace ⟨h1,h2,h3,h4⟩:=(sn [] O W).g4 h1 h2 h3 h4
 have C:=O
 refine .np 42 [.slice a3 b.ids.length c3,.slice a4 b.blocks.length c4] fun ai aj aa ab J ah=>?_
 replace ⟨h1,h2,h3,h4,E,C⟩:=(sn [af] ab aa).g6 h1 h2 h3 h4 E C
 refine .r 1<|.d<|.s<|.g<|.r 1<|.lb E<|.r 1<|.lb J<|.cl (Dv a.ids b.ids h1.ta h3.ta (w:=aj) (F:=all)) ?_
 rintro av ak ⟨rfl,ac⟩
 replace ⟨h2,h4,E,J,C⟩:=(se [ai,af] ac).g5 h2 h4 E J C
 cases ar:(a.ids==b.ids)
 ·exact .r 8<|.d<|.rt Tryz.func94 Tryz.results94 (.bool false) ⟨(congrArg Value.bool (by cases a; cases b; grind)),C⟩
 refine .r 2<|.lb E<|.r 1<|.lb J<|.cl (HY a.blocks b.blocks h2.ta h4.ta (w:=ak) (F:=all)) ?_
 rintro aw ax ⟨rfl,ae⟩
 replace C:=(se [] ae).g1 C
 exact .r 2<|.d<|.rt Tryz.func94 Tryz.results94 (.bool (a.blocks==b.blocks)) ⟨(congrArg Value.bool (by cases a; cases b; grind)),C⟩
theorem IJ (s1:List Prt) (s2:List Prt) {w:World} {F:Nat→Prop} {a1:Option Addr} {n1 c1:Nat} (h1:RepS w F a1 n1 c1 s1) {a2:Option Addr} {n2 c2:Nat} (h2:RepS w F a2 n2 c2 s2)  : Calls Tryz.prog 93 [.slice a1 n1 c1,.slice a2 n2 c2,.func (.func 94) #[] #[]].toArray w (As fun rv w'=>rv=.bool ((s1==s2))∧Ext w w'):=by
 refine goT Tryz.func93 ?_
 obtain ⟨rfl,aZ,h1⟩:=h1.tp
 obtain ⟨rfl,ba,h2⟩:=h2.tp
 refine .s<|.g<|.r 1<|.d<|.s<|.s<|.g<|.r 4<|.ne (s1.length:Int) (s2.length:Int) (fun aw=>.d<|.ct<|.s<|.g<|.r 1<|.d<|.rt Tryz.func93 Tryz.results93 (.bool false) ⟨(congrArg Value.bool (by grind [AY])),(Chg.refl _ _)⟩) fun aw=>.d<|.cf<|.sk<|.s<|.s<|.g<|.r 3<|.d<|.b 0<|T.loop (X:=Nat) 0 (fun k=>[(1,.slice a2 s2.length c2),(2,.func (.func 94) #[] #[]),(15,.slice a1 s1.length c1),(16,vI (s1.length:Int)),(17,vI (k:Int))]) (fun k ak=>Chg (ins []) w ak∧(k≤s1.length)∧(s1.drop k=s2.drop k↔s1=s2)) (fun k=>s1.length - k) AA ⟨AA,AA,AA,AA,AA,trivial⟩ ⟨Chg.refl _ _,(by simp),(by simp)⟩ ?_
 rintro k bv ak ⟨C,bc,bd⟩ af
 have al:Mv [] [] w ak:=Mv.inl C all_nil all_nil
 replace ⟨h1,h2⟩:=(sp al C).g2 h1 h2
 have E:Chg nil w ak:=Chg.CY (Chg.refl nil w) C all_nil
 refine .s<|.g<|.bp ((k:Int)< (s1.length:Int)) (fun ax=>?_) (fun ax=>.d<|.s<|.cf<|.x 0 rfl<|.s<|.g<|.r 1<|.d<|.rt Tryz.func93 Tryz.results93 (.bool true) ⟨(congrArg Value.bool (by grind [AY])),E⟩)
 refine .d<|.s<|.ct<|.sk<|.s<|.b 1<|.s<|.g<|.r 1 ?_
 have ay:k< s1.length:=AB
 refine .ix k 2 h1 ay ?_
 obtain ⟨ag,ah⟩:∃ y,s1[k]? = some y:=⟨_,AP AB⟩
 have bg:=AX ah; have aN:=AQ ah
 obtain ⟨_,⟨aP,bw,aQ,aR,bz,aS,rfl,J,O⟩,az⟩:=h1.elem k ag ah
 have aA:=J.len
 subst aA
 have bh:=J.max
 have aB:=O.len
 subst aB
 have bi:=O.max
 refine .lg 0 az<|.np 42 [.slice none 0 0,.slice none 0 0] fun av bA ae am aC aD=>?_
 have bj:=E.cn ae
 have bk:=C.cn ae
 replace ⟨h2,J,O,E,C⟩:=(sn [] am ae).g5 h2 J O E C
 refine .r 1<|.sc [.slice aP ag.ids.length aQ,.slice aR ag.blocks.length aS] aC fun bB ao W aE=>?_
 replace ⟨h2,J,O,E,C⟩:=(so [av] ao).g5 h2 J O E C
 refine .d<|.s<|.g<|.r 2 ?_
 have aF:k< s2.length:=AB
 refine .ix k 2 h2 aF ?_
 obtain ⟨ai,aj⟩:∃ y,s2[k]? = some y:=⟨_,AP AB⟩
 have bm:=AX aj; have aO:=AQ aj
 obtain ⟨_,⟨aT,bC,aU,aV,bD,aW,rfl,ab,ac⟩,aG⟩:=h2.elem k ai aj
 have aH:=ab.len
 subst aH
 have bn:=ab.max
 have aI:=ac.len
 subst aI
 have bo:=ac.max
 refine .lg 0 aG<|.np 42 [.slice none 0 0,.slice none 0 0] fun aX bE aa aq aJ aK=>?_
 have bq:=AS aa W.lt
 have br:=E.cn aa
 have bt:=C.cn aa
 replace ⟨J,O,W,ab,ac,E,C⟩:=(sn [av] aq aa).g7 J O W ab ac E C
 refine .sc [.slice aT ai.ids.length aU,.slice aV ai.blocks.length aW] aJ fun aY ar aL aM=>?_
 replace ⟨J,O,W,ab,ac,E,C⟩:=(so [aX,av] ar).g7 J O W ab ac E C
 refine .d<|.s<|.g<|.r 1<|.ln W<|.ln aL<|.cl (Ji ag ai J.ta O.ta ab.ta ac.ta (w:=aY) (F:=all)) ?_
 rintro bF bG ⟨rfl,au⟩
 replace ⟨E,C⟩:=(se [] au).g2 E C
 cases bu:(ag==ai)
 ·exact .r 1<|.d<|.ct<|.s<|.g<|.r 1<|.d<|.rt Tryz.func93 Tryz.results93 (.bool false) ⟨(congrArg Value.bool (by grind [AY])),E⟩
 exact .r 1<|.d<|.cf<|.sk<|.ib 1<|.g<|.it ((k:Int)+1)<|.r 1<|.d<|af (k+1) _ _ ⟨AA,AA,AA,AA,AA,trivial⟩ ⟨C,AB,(by grind)⟩ AB
theorem Gh (s:Sto) (d:Dsk) {w:World} {F:Nat→Prop} {a1:Option Addr} {n1 c1:Nat} (h1:RepS w F a1 n1 c1 s.idx.names) {a2:Option Addr} {n2 c2:Nat} (h2:RepS w F a2 n2 c2 s.idx.AV) {a3:Option Addr} {n3 c3:Nat} (h3:RepS w F a3 n3 c3 s.parts) {a4:Option Addr} {n4 c4:Nat} (h4:RepS w F a4 n4 c4 s.mem) {a5:Option Addr} {n5 c5:Nat} (h5:RepS w F a5 n5 c5 d.files) {a6:Option Addr} {n6 c6:Nat} (h6:RepS w F a6 n6 c6 d.list) {a7:Option Addr} {n7 c7:Nat} (h7:RepS w F a7 n7 c7 d.names) (p0:SG s) (p1:DD d):Calls Tryz.prog 51 [.agg #[.slice a1 n1 c1,.slice a2 n2 c2,.slice a3 n3 c3,.slice a4 n4 c4],.agg #[.slice a5 n5 c5,.slice a6 n6 c6,.slice a7 n7 c7,.int .i64 d.next]].toArray w (As fun rv w'=>rv=.bool (CQ d s)∧Ext w w'):=by
 refine goT Tryz.func51 ?_
 obtain ⟨rfl,aT,h1⟩:=h1.tp
 obtain ⟨rfl,aU,h2⟩:=h2.tp
 obtain ⟨rfl,aV,h3⟩:=h3.tp
 obtain ⟨rfl,aW,h4⟩:=h4.tp
 obtain ⟨rfl,aX,h5⟩:=h5.tp
 obtain ⟨rfl,aY,h6⟩:=h6.tp
 obtain ⟨rfl,aZ,h7⟩:=h7.tp
 refine .s<|.g<|.np 34 [.slice a1 s.idx.names.length c1,.slice a2 s.idx.AV.length c2,.slice a3 s.parts.length c3,.slice a4 s.mem.length c4] fun O bv ax ah E aG=>?_
 replace ⟨h1,h2,h3,h4,h5,h6,h7⟩:=(sn [] ah ax).g7 h1 h2 h3 h4 h5 h6 h7
 have C:=ah
 refine .np 27 [.slice a5 d.files.length c5,.slice a6 d.list.length c6,.slice a7 d.names.length c7,vI d.next] fun W bw ay az J aH=>?_
 replace ⟨h1,h2,h3,h4,h5,h6,h7,E,C⟩:=(sn [O] az ay).g9 h1 h2 h3 h4 h5 h6 h7 E C
 refine .r 1<|.d<|.s<|.s<|.gd nil 14 fun bz aA=>?_
 replace ⟨h1,h2,h3,h4,h5,h6,h7,E,J,C⟩:=(se [W,O] aA).g10 h1 h2 h3 h4 h5 h6 h7 E J C
 refine .ln 0 E id<|GA.Bz (i:=1) AA (fun aO af=>Ee s (h1.ta.ext af) (h2.ta.ext af) (h3.ta.ext af) (h4.ta.ext af) p0 (w:=aO) (F:=all)) ?_
 cases ba:(nmB s.idx.names&&Ak s)
 ·refine .r [2,3,4,5,6,7,8]<|GA.skip AA fun bA aB=>?_
  replace ⟨h1,h3,h5,h6,h7,E,J,C⟩:=(se [W,O] aB).g8 h1 h3 h5 h6 h7 E J C
  exact .r 3<|.d<|.ct<|.s<|.g<|.r 1<|.d<|.rt Tryz.func51 Tryz.results51 (.bool false) ⟨(congrArg Value.bool (by exact Ro ‹_›)),C⟩
 refine .r [2,3]<|.ln 4 J id<|GA.Bz (i:=5) AA (fun aP ai=>Bs d (h5.ta.ext ai) (h6.ta.ext ai) (h7.ta.ext ai) p1 (w:=aP) (F:=all)) ?_
 cases bc:(Af d)
 ·refine .r [6,7,8]<|GA.skip AA fun bB aC=>?_
  replace ⟨h1,h3,h5,h6,h7,E,J,C⟩:=(se [W,O] aC).g8 h1 h3 h5 h6 h7 E J C
  exact .r 3<|.d<|.ct<|.s<|.g<|.r 1<|.d<|.rt Tryz.func51 Tryz.results51 (.bool false) ⟨(congrArg Value.bool (by exact Rn ‹_›)),C⟩
 refine .r [6,7,8,9]<|.lb 10 E id<|.ln 11 J id<|.go 12<|.cl (fun aD aa=>EP d (h5.ta.ext aa) (h6.ta.ext aa) (h7.ta.ext aa) p1 (Cr (CU ‹_›).2.2.2) (w:=aD) (F:=all)) ?_
 intro aD aa
 replace ⟨h1,h3,h7,E,J,C⟩:=(se [W,O] aa).g6 h1 h3 h7 E J C
 rintro bC bD ⟨⟨aI,⟨_,rfl,⟨bE,bF,bG,bH,bI,bJ,bK,bL,bM,bN,bO,bP,rfl,au,av,ae,aw⟩⟩,bd⟩,aj⟩
 have ab:=al2 J.lt E.lt
 have ag:Gb w.heap.size aD.heap.size:=C.size
 have hkeep_:=aj
 replace ⟨h1,h3,h7,E,J,C⟩:=(se [W,O] aj).g6 h1 h3 h7 E J C
 refine ⟨Ext.chg hkeep_,?_⟩
 have au:=au.fr ab ag
 have bg:=au.max
 have av:=av.fr ab ag
 have bh:=av.max
 have ae:=ae.fr ab ag
 have bi:=ae.max
 have aw:=aw.fr ab ag
 have bj:=aw.max
 have aJ:=au.len
 subst aJ
 have aK:=av.len
 subst aK
 have aL:=ae.len
 subst aL
 have aE:=aw.len
 subst aE
 refine .r [13]<|.d fun aM ak=>?_
 replace ⟨h1,h3,h7,E,J,ae,C⟩:=(se [W,O] ak).g7 h1 h3 h7 E J ae C
 refine .cl (IJ s.parts aI.parts h3.ta ae.ta (w:=aM) (F:=all)) ?_
 rintro bk bm ⟨rfl,al⟩
 replace ⟨h1,h7,E,J,C⟩:=(se [W,O] al).g5 h1 h7 E J C
 cases aQ:(s.parts==aI.parts)
 ·exact .r 2<|.d<|.ct<|.s<|.g<|.r 1<|.d<|.rt Tryz.func51 Tryz.results51 (.bool false) ⟨(congrArg Value.bool (by exact Ut ‹_› ‹_›)),C⟩
 refine .r 2<|.d<|.cf<|.sk<|.s<|.g<|.r 1<|.lb J<|.r 2<|.d<|.s<|.gd nil 14 fun bn am=>?_
 replace ⟨h1,h7,E,J,C⟩:=(se [W,O] am).g5 h1 h7 E J C
 refine .r [0,1,2]<|.lb 3 E id<|.r [4]<|GA.EE (i:=5) ((d.names.length:Int)≤(s.idx.names.length:Int)) AA (fun aF=>?_) (fun aF=>?_)
 ·refine .r [6,7]<|.lb 8 J id<|.r [9,10]<|.lb 11 E id<|.r [12]<|GA.sub (i:=13) (t:=25) (lo:=none) (hi:=some (vI (d.names.length:Int))) AA h1 0 d.names.length AA AA (.inl ⟨rfl,rfl⟩) (.inr ⟨_,_,rfl,by omega⟩) AB AB fun bo bq ac=>?_
  have aR:=ac.len; have aS:=ac.max
  refine .d fun aN ao=>?_
  replace ⟨h7,ac,C⟩:=(se [W,O] ao).g3 h7 ac C
  refine .cl (II d.names ((s.idx.names.take d.names.length).drop 0) h7.ta ac.ta (w:=aN) (F:=all)) ?_
  rintro br bt ⟨rfl,aq⟩
  replace C:=(se [] aq).g1 C
  exact .r 2<|.d<|.rt Tryz.func51 Tryz.results51 (.bool (d.names==((s.idx.names.take d.names.length).drop 0))) ⟨(congrArg Value.bool (by exact Uw ‹_› ‹_› ‹_› ‹_› (by simp))),C⟩
 refine .r [6]<|GA.skip AA fun bu ar=>?_
 replace C:=(se [] ar).g1 C
 exact .r 3<|.d<|.rt Tryz.func51 Tryz.results51 (.bool false) ⟨(congrArg Value.bool (by exact Uv ‹_›)),C⟩
theorem FO (d:Dsk) (s:Sto) {w:World} {F:Nat→Prop} {a1:Option Addr} {n1 c1:Nat} (h1:RepS w F a1 n1 c1 d.files) {a2:Option Addr} {n2 c2:Nat} (h2:RepS w F a2 n2 c2 d.list) {a3:Option Addr} {n3 c3:Nat} (h3:RepS w F a3 n3 c3 d.names) {a4:Option Addr} {n4 c4:Nat} (h4:RepS w F a4 n4 c4 s.idx.names) {a5:Option Addr} {n5 c5:Nat} (h5:RepS w F a5 n5 c5 s.idx.AV) {a6:Option Addr} {n6 c6:Nat} (h6:RepS w F a6 n6 c6 s.parts) {a7:Option Addr} {n7 c7:Nat} (h7:RepS w F a7 n7 c7 s.mem) (p0:DD d) (p1:SG s):Calls Tryz.prog 16 [.agg #[.slice a1 n1 c1,.slice a2 n2 c2,.slice a3 n3 c3,.int .i64 d.next],.agg #[.slice a4 n4 c4,.slice a5 n5 c5,.slice a6 n6 c6,.slice a7 n7 c7]].toArray w (As fun rv w'=>VL (ge w.heap.size) w' (BA d s:List Stp) rv∧Ext w w'):=by
 refine goT Tryz.func16 ?_
 obtain ⟨rfl,qw,h1⟩:=h1.tp
 obtain ⟨rfl,qx,h2⟩:=h2.tp
 obtain ⟨rfl,qy,h3⟩:=h3.tp
 obtain ⟨rfl,qz,h4⟩:=h4.tp
 obtain ⟨rfl,qA,h5⟩:=h5.tp
 obtain ⟨rfl,qB,h6⟩:=h6.tp
 obtain ⟨rfl,qC,h7⟩:=h7.tp
 refine .s<|.g<|.np 27 [.slice a1 d.files.length c1,.slice a2 d.list.length c2,.slice a3 d.names.length c3,vI d.next] fun aa qQ kO gV E l8=>?_
 replace ⟨h1,h2,h3,h4,h5,h6,h7⟩:=(sn [] gV kO).g7 h1 h2 h3 h4 h5 h6 h7
 have J:=gV
 refine .np 34 [.slice a4 s.idx.names.length c4,.slice a5 s.idx.AV.length c5,.slice a6 s.parts.length c6,.slice a7 s.mem.length c7] fun ab oT kP kQ W l9=>?_
 replace ⟨h1,h2,h3,h4,h5,h6,h7,E,J⟩:=(sn [aa] kQ kP).g9 h1 h2 h3 h4 h5 h6 h7 E J
 refine .r 1<|.d<|.s<|.s<|.g<|.ln W<|.ln E<|.cl (Gh s d h4.ta h5.ta h6.ta h7.ta h1.ta h2.ta h3.ta p1 p0 (w:=oT) (F:=all)) ?_
 rintro qR oU ⟨rfl,kR⟩
 replace ⟨h1,h2,h3,h4,h5,h6,h7,E,W,J⟩:=(se [ab,aa] kR).g10 h1 h2 h3 h4 h5 h6 h7 E W J
 cases qD:(CQ d s)
 ·refine .r 17<|.d<|.ct<|.s<|.g<|.ns 0 44 [] fun gW ma eP kS mb mc=>?_
  have qE:=AS eP E.lt
  have qF:=AS eP W.lt
  have me:=Ad eP J.size
  replace ⟨h1,h2,h3,h4,h5,h6,h7,E,W,J⟩:=(sn [ab,aa] kS eP).g10 h1 h2 h3 h4 h5 h6 h7 E W J
  have mf:Own (α:=Stp) ma gW 44 (nin (ge w.heap.size) [gW,ab,aa]) 0 0 []:=Own.Ag mb
  refine .r 1<|.d ?_
  have oV:=mf.sl me
  replace ⟨h1,h2,h3,h4,h5,h6,h7⟩:=(sd ma [gW,ab,aa] gW).g7 h1 h2 h3 h4 h5 h6 h7
  exact .rt Tryz.func16 Tryz.results16 (vS gW 0 0) ⟨(oV.vl (by exact Vo ‹_›) (fun _ _ h=>h.1)),J⟩
 refine .r 3<|.lb W<|.r 1<|.eq (s.mem.length:Int) 0 (fun mh=>?_) (fun mh=>?_)
 ·refine .r 11<|.d<|.ct<|.s<|.g<|.ns 0 44 [] fun gX mj eQ kT ml mo=>?_
  have qG:=AS eQ E.lt
  have qH:=AS eQ W.lt
  have mp:=Ad eQ J.size
  replace ⟨h1,h2,h3,h4,h5,h6,h7,E,W,J⟩:=(sn [ab,aa] kT eQ).g10 h1 h2 h3 h4 h5 h6 h7 E W J
  have mq:Own (α:=Stp) mj gX 44 (nin (ge w.heap.size) [gX,ab,aa]) 0 0 []:=Own.Ag ml
  refine .r 1<|.d ?_
  have oW:=mq.sl mp
  replace ⟨h1,h2,h3,h4,h5,h6,h7⟩:=(sd mj [gX,ab,aa] gX).g7 h1 h2 h3 h4 h5 h6 h7
  exact .rt Tryz.func16 Tryz.results16 (vS gX 0 0) ⟨(oW.vl (by exact Ux (.inl ‹_›)) (fun _ _ h=>h.1)),J⟩
 refine .r 3<|.lb E<|.r 1<|.eq (d.list.length:Int) 6 (fun mr=>?_) (fun mr=>?_)
 ·refine .r 5<|.d<|.ct<|.s<|.g<|.ns 0 44 [] fun gY mt eR kU mu mw=>?_
  have qI:=AS eR E.lt
  have qJ:=AS eR W.lt
  have mz:=Ad eR J.size
  replace ⟨h1,h2,h3,h4,h5,h6,h7,E,W,J⟩:=(sn [ab,aa] kU eR).g10 h1 h2 h3 h4 h5 h6 h7 E W J
  have mA:Own (α:=Stp) mt gY 44 (nin (ge w.heap.size) [gY,ab,aa]) 0 0 []:=Own.Ag mu
  refine .r 1<|.d ?_
  have oX:=mA.sl mz
  replace ⟨h1,h2,h3,h4,h5,h6,h7⟩:=(sd mt [gY,ab,aa] gY).g7 h1 h2 h3 h4 h5 h6 h7
  exact .rt Tryz.func16 Tryz.results16 (vS gY 0 0) ⟨(oX.vl (by exact Ux (.inr (.inl ‹_›))) (fun _ _ h=>h.1)),J⟩
 refine .r 2<|.ln E<|.cl (Fp d h1.ta h2.ta h3.ta (w:=oU) (F:=all)) ?_
 rintro qS bH ⟨rfl,kV⟩
 replace ⟨h2,h4,h5,h6,h7,E,W,J⟩:=(se [ab,aa] kV).g8 h2 h4 h5 h6 h7 E W J
 cases qK:(Ej d)
 ·refine .r 1<|.d<|.cf<|.sk<|.s<|T.Du (X:=(Option Addr) × Nat × (Option Addr) × Nat × Nat × Nat × Nat × Nat × Nat) (mtb [] bH.heap.size) 18 (fun (eS,eT,eU,eV,aV,eW,aQ,eX,eY)=>[(30,.agg #[vI 1,vI d.next,.slice eS (((BK s.mem).ids).length) eT,.slice eU (((BK s.mem).blocks).length) eV,.slice none 0 0,.slice none 0 0]),(43,.agg #[vI 2,vI 0,.slice none 0 0,.slice none 0 0,vS aV (0+d.list.length+1) eW,vS aQ eX eY])]) (fun (eS,eT,eU,eV,aV,eW,aQ,eX,eY) dy=>Ext bH dy∧bH.heap.size≤aV∧bH.heap.size≤aQ∧Nb aQ aV∧RepS dy (nin (ge w.heap.size) [aV,aQ,ab,aa]) eS (((BK s.mem).ids).length) eT ((BK s.mem).ids:List Int)∧RepS dy (nin (ge w.heap.size) [aV,aQ,ab,aa]) eU (((BK s.mem).blocks).length) eV ((BK s.mem).blocks:List (List Row))∧Own dy aV 3 (nin (ge w.heap.size) [aV,aQ,ab,aa]) (0+d.list.length+1) eW ((([]++d.list)++[d.next]):List Int)∧Own dy aQ 77 (nin (ge w.heap.size) [aV,aQ,ab,aa]) eX eY (s.idx.names:List (List Tag))) AA (fun mB dz=>?_) ?_
  ·replace h2:=h2.Ah
   replace h4:=h4.Ah
   replace h5:=h5.Ah
   replace h6:=h6.Ah
   replace h7:=h7.Ah
   have eZ:Gb (aa+1) bH.heap.size:=E.lt
   have gZ:Gb (ab+1) bH.heap.size:=W.lt
   replace ⟨h2,h4,h5,h6,h7,E,W,J⟩:=(se [ab,aa] dz).g8 h2 h4 h5 h6 h7 E W J
   have C:=dz
   have O:Chg (mtb [] bH.heap.size) bH mB:=Chg.Cc (Chg.refl (mtb [] bH.heap.size) bH) dz
   refine .r [0]<|.lb 1 E (Ax all_nil eZ)<|.ln 2 W (Ax all_nil gZ)<|.r [6]<|.lb 7 E (Ax all_nil eZ)<|.r [9]<|.lb 10 E (Ax all_nil eZ)<|.r [13,14]<|.lb 15 W (Ax all_nil gZ)<|GE.many [3,5,11] AA (all_cons ?_ (all_cons ?_ (all_cons ?_ all_nil)))
   ·refine .cl (fun g0 cm=>CE s (h4.ta.ext cm) (h5.ta.ext cm) (h6.ta.ext cm) (h7.ta.ext cm) (StoK.of (C9 p1 ‹_›) (C1 ‹_›).sk).row (StoK.of (C9 p1 ‹_›) (C1 ‹_›).sk).Ja.Hs (by have:=p1.nm2; omega) (w:=g0) (F:=all)) ?_
    intro g0 cm
    replace ⟨h2,h4,h5,h6,h7,E,W,J,C,O⟩:=(se [ab,aa] cm).g10 h2 h4 h5 h6 h7 E W J C O
    rintro qL qM ⟨⟨_,rfl,⟨hC,qN,hD,hE,qO,hH,rfl,ae,af⟩⟩,e7⟩
    have e8:=al2 W.lt E.lt
    have hJ:Gb w.heap.size g0.heap.size:=J.size
    have hkeep_:=e7
    replace ⟨h2,h4,h5,h6,h7,E,W,J,C,O⟩:=(se [ab,aa] e7).g10 h2 h4 h5 h6 h7 E W J C O
    refine ⟨Ext.chg hkeep_,?_⟩
    have ae:=ae.fr e8 hJ
    have oY:=ae.max
    have af:=af.fr e8 hJ
    have oZ:=af.max
    have kW:=ae.len
    subst kW
    have kX:=af.len
    subst kX
    refine .r [4]<|.tw 5 11 ?_ ?_
    ·refine .ns 0 3 [] fun qP fK=>?_
     replace ⟨h2,h4,h5,h6,h7,E,W,ae,af,J,C,O⟩:=(se [ab,aa] fK).g12 h2 h4 h5 h6 h7 E W ae af J C O
     intro aM mC bS hN kY kZ
     have fL:=AS bS E.lt
     have fM:=AS bS W.lt
     have fN:=J.cn bS
     have fO:=C.cn bS
     have cA:=O.cn bS
     replace ⟨h2,h4,h5,h6,h7,E,W,ae,af,J,C,O⟩:=(sn [ab,aa] hN bS).g12 h2 h4 h5 h6 h7 E W ae af J C O
     have aG:Own (α:=Int) mC aM 3 (nin (ge w.heap.size) [aM,ab,aa]) 0 0 []:=Own.Ag kY
     refine .tw 8 11 ?_ ?_
     ·refine GE.append (T:=24) (ty:=24) (args:=[vS aM 0 0,.slice a2 d.list.length c2]) AA fun o0 dA=>?_
      replace ⟨h2,h4,h5,h6,h7,E,W,ae,af,aG,J,C⟩:=(se [aM,ab,aa] dA).g12 h2 h4 h5 h6 h7 E W ae af aG J C
      replace O:=(se [aM,ab,aa] dA).g1 O
      obtain ⟨aR,k5,o5,gF,aD,aS,dB,im⟩:=Own.Ay (P:=Tryz.prog) (T:=24) (ty:=24) BF aG AA h2 (fun b h e=>h.2 (e▸AD)) (by have:=p0.nl; omega)
      refine ⟨_,_,gF,Chg.toS dB (Cov.toS cA),?_⟩
      have mD:=Ae aS fL E.lt
      have mE:=Ae aS fM W.lt
      have mF:=Am aS fN J.size
      have io:=Am aS fO C.size
      have ip:=Am aS cA O.size
      replace ⟨h2,h4,h5,h6,h7,E,W,ae,af,J,C,O⟩:=(sa [aM,ab,aa] dB aS).g12 h2 h4 h5 h6 h7 E W ae af J C O
      replace aD:=aD.rn aM
      have mG:=aD.len; have mH:=aD.max
      refine .go 11<|.ns 1 3 [vI d.next] fun o6 dC=>?_
      replace ⟨h2,h4,h5,h6,h7,E,W,ae,af,aD,J,C⟩:=(se [aR,ab,aa] dC).g12 h2 h4 h5 h6 h7 E W ae af aD J C
      replace O:=(se [aR,ab,aa] dC).g1 O
      intro fa o7 bY dD dE iq
      have ir:=AS bY E.lt
      have iu:=AS bY W.lt
      have fP:=AS bY aD.lt
      have iw:=Ad bY J.size
      replace ⟨h2,h4,h5,h6,h7,E,W,ae,af,aD,J,C⟩:=(se [aR,ab,aa] dD).g12 h2 h4 h5 h6 h7 E W ae af aD J C
      replace O:=(se [aR,ab,aa] dD).g1 O
      refine .go 12<|GE.append (T:=24) (ty:=24) (args:=[vS aR (0+d.list.length) k5,vS fa 1 1]) AA fun o8 dF=>?_
      replace ⟨h2,h4,h5,h6,h7,E,W,ae,af,aD,dE,J⟩:=(se [aR,ab,aa] dF).g12 h2 h4 h5 h6 h7 E W ae af aD dE J
      replace ⟨C,O⟩:=(se [aR,ab,aa] dF).g2 C O
      have fb:nin (ge w.heap.size) [aR,ab,aa] fa∧fa≠aR:=BG iw (all_cons fP (all_cons iu (all_cons ir all_nil))) fP
      obtain ⟨ba,k6,o9,gG,au,dm,dG,iy⟩:=aD.Ap (P:=Tryz.prog) (T:=24) (ty:=24) (y:=d.next) AA dE rfl fb (by have:=p0.nl; omega)
      refine ⟨_,_,gG,Chg.toS dG (Cov.toS ip),?_⟩
      have iz:=Am dm io C.size
      replace ⟨h2,h4,h5,h6,h7,E,W,ae,af,J,C,O⟩:=(sa [aR,ab,aa] dG dm).g12 h2 h4 h5 h6 h7 E W ae af J C O
      replace au:=au.rn aR
      have mI:=au.len; have mJ:=au.max
      refine .go 16<|.cl (fun fc cB=>Aj s.idx.names (h4.ta.ext cB) (by have:=p1.ix.g.len; omega) (by (intro n hn; have:=(p1.ix.g.sz n hn).1; omega)) (w:=fc) (F:=all)) ?_
      intro fc cB
      replace ⟨h2,h4,h5,h6,h7,E,W,ae,af,au,J,C⟩:=(se [ba,ab,aa] cB).g12 h2 h4 h5 h6 h7 E W ae af au J C
      replace O:=(se [ba,ab,aa] cB).g1 O
      rintro pa pb ⟨⟨co,k7,k8,rfl,bk,bZ⟩,cC⟩
      have fQ:=al3 au.lt W.lt E.lt
      have iA:Gb w.heap.size fc.heap.size:=J.size
      have hkeep_:=cC
      have iB:=Ab bZ au.lt
      have iC:Cov nil bH co:=BR bZ C.size
      replace ⟨h2,h4,h5,h6,h7,E,W,ae,af,au,J,C⟩:=(sz [ba,ab,aa] cC bZ).g12 h2 h4 h5 h6 h7 E W ae af au J C
      replace O:=(sz [ba,ab,aa] cC bZ).g1 O
      refine ⟨Ext.chg hkeep_,?_⟩
      replace bk:=Own.take (s0:=w.heap.size) (M:=[ba,ab,aa]) bk fQ iA
      have mK:=bk.len; have mL:=bk.max
      refine .r [17]<|.d fun hO dH=>?_
      replace ⟨h2,h4,h5,h6,h7,E,W,ae,af,au,bk,J⟩:=(se [co,ba,ab,aa] dH).g12 h2 h4 h5 h6 h7 E W ae af au bk J
      replace ⟨C,O⟩:=(se [co,ba,ab,aa] dH).g2 C O
      replace h2:=h2.AU
      replace h4:=h4.AU
      replace h5:=h5.AU
      replace h6:=h6.AU
      replace h7:=h7.AU
      have cD:Mv [co,ba,ab,aa] [ba,co,ab,aa] hO hO:=Mv.less (all_cons AE (all_cons AD (all_cons AF (all_cons AG all_nil))))
      exact ⟨(hC,hD,hE,hH,ba,k6,co,k7,k8),⟨AA,AA,trivial⟩,⟨C,(Ac iz),(Ac iC),iB,(RepS.mv ae cD),(RepS.mv af cD),(Own.mv au cD (Chg.refl nil _) (fun h=>h)),(Own.mv bk cD (Chg.refl nil _) (fun h=>h))⟩⟩
     refine .ns 1 3 [vI d.next] fun pc dI=>?_
     replace ⟨h2,h4,h5,h6,h7,E,W,ae,af,aG,J,C⟩:=(se [aM,ab,aa] dI).g12 h2 h4 h5 h6 h7 E W ae af aG J C
     replace O:=(se [aM,ab,aa] dI).g1 O
     intro fd pd b0 dJ aW iD
     have iE:=AS b0 E.lt
     have iF:=AS b0 W.lt
     have iG:=AS b0 aG.lt
     have iH:=Ad b0 J.size
     replace ⟨h2,h4,h5,h6,h7,E,W,ae,af,aG,J,C⟩:=(se [aM,ab,aa] dJ).g12 h2 h4 h5 h6 h7 E W ae af aG J C
     replace O:=(se [aM,ab,aa] dJ).g1 O
     refine .go 8<|GE.append (T:=24) (ty:=24) (args:=[vS aM 0 0,.slice a2 d.list.length c2]) AA fun pe dK=>?_
     replace ⟨h2,h4,h5,h6,h7,E,W,ae,af,aG,aW,J⟩:=(se [aM,ab,aa] dK).g12 h2 h4 h5 h6 h7 E W ae af aG aW J
     replace ⟨C,O⟩:=(se [aM,ab,aa] dK).g2 C O
     obtain ⟨bT,k9,pf,gH,bm,aH,cE,iI⟩:=Own.Ay (P:=Tryz.prog) (T:=24) (ty:=24) BF aG AA h2 (fun b h e=>h.2 (e▸AD)) (by have:=p0.nl; omega)
     refine ⟨_,_,gH,Chg.toS cE (Cov.toS cA),?_⟩
     have mM:=Ae aH fL E.lt
     have mN:=Ae aH fM W.lt
     have fR:=Ae aH (Nb.symm iG) aW.lt
     have mO:=Am aH fN J.size
     have iJ:=Am aH fO C.size
     have iK:=Am aH cA O.size
     replace ⟨h2,h4,h5,h6,h7,E,W,ae,af,aW,J,C⟩:=(sa [aM,ab,aa] cE aH).g12 h2 h4 h5 h6 h7 E W ae af aW J C
     replace O:=(sa [aM,ab,aa] cE aH).g1 O
     replace bm:=bm.rn aM
     have mP:=bm.len; have mQ:=bm.max
     refine .go 12<|GE.append (T:=24) (ty:=24) (args:=[vS bT (0+d.list.length) k9,vS fd 1 1]) AA fun pg dL=>?_
     replace ⟨h2,h4,h5,h6,h7,E,W,ae,af,bm,aW,J⟩:=(se [bT,ab,aa] dL).g12 h2 h4 h5 h6 h7 E W ae af bm aW J
     replace ⟨C,O⟩:=(se [bT,ab,aa] dL).g2 C O
     have fe:nin (ge w.heap.size) [bT,ab,aa] fd∧fd≠bT:=BG iH (all_cons (Nb.symm fR) (all_cons iF (all_cons iE all_nil))) (Nb.symm fR)
     obtain ⟨bc,lc,ph,gI,av,dp,dM,iL⟩:=bm.Ap (P:=Tryz.prog) (T:=24) (ty:=24) (y:=d.next) AA aW rfl fe (by have:=p0.nl; omega)
     refine ⟨_,_,gI,Chg.toS dM (Cov.toS iK),?_⟩
     have iM:=Am dp iJ C.size
     replace ⟨h2,h4,h5,h6,h7,E,W,ae,af,J,C,O⟩:=(sa [bT,ab,aa] dM dp).g12 h2 h4 h5 h6 h7 E W ae af J C O
     replace av:=av.rn bT
     have mR:=av.len; have mS:=av.max
     refine .go 16<|.cl (fun ff cF=>Aj s.idx.names (h4.ta.ext cF) (by have:=p1.ix.g.len; omega) (by (intro n hn; have:=(p1.ix.g.sz n hn).1; omega)) (w:=ff) (F:=all)) ?_
     intro ff cF
     replace ⟨h2,h4,h5,h6,h7,E,W,ae,af,av,J,C⟩:=(se [bc,ab,aa] cF).g12 h2 h4 h5 h6 h7 E W ae af av J C
     replace O:=(se [bc,ab,aa] cF).g1 O
     rintro pi pj ⟨⟨cp,ld,lf,rfl,bn,b6⟩,cG⟩
     have fS:=al3 av.lt W.lt E.lt
     have iN:Gb w.heap.size ff.heap.size:=J.size
     have hkeep_:=cG
     have iO:=Ab b6 av.lt
     have iP:Cov nil bH cp:=BR b6 C.size
     replace ⟨h2,h4,h5,h6,h7,E,W,ae,af,av,J,C⟩:=(sz [bc,ab,aa] cG b6).g12 h2 h4 h5 h6 h7 E W ae af av J C
     replace O:=(sz [bc,ab,aa] cG b6).g1 O
     refine ⟨Ext.chg hkeep_,?_⟩
     replace bn:=Own.take (s0:=w.heap.size) (M:=[bc,ab,aa]) bn fS iN
     have mT:=bn.len; have mU:=bn.max
     refine .r [17]<|.d fun hQ dN=>?_
     replace ⟨h2,h4,h5,h6,h7,E,W,ae,af,av,bn,J⟩:=(se [cp,bc,ab,aa] dN).g12 h2 h4 h5 h6 h7 E W ae af av bn J
     replace ⟨C,O⟩:=(se [cp,bc,ab,aa] dN).g2 C O
     replace h2:=h2.AU
     replace h4:=h4.AU
     replace h5:=h5.AU
     replace h6:=h6.AU
     replace h7:=h7.AU
     have cH:Mv [cp,bc,ab,aa] [bc,cp,ab,aa] hQ hQ:=Mv.less (all_cons AE (all_cons AD (all_cons AF (all_cons AG all_nil))))
     exact ⟨(hC,hD,hE,hH,bc,lc,cp,ld,lf),⟨AA,AA,trivial⟩,⟨C,(Ac iM),(Ac iP),iO,(RepS.mv ae cH),(RepS.mv af cH),(Own.mv av cH (Chg.refl nil _) (fun h=>h)),(Own.mv bn cH (Chg.refl nil _) (fun h=>h))⟩⟩
    refine .ns 1 3 [vI d.next] fun pk fT=>?_
    replace ⟨h2,h4,h5,h6,h7,E,W,ae,af,J,C,O⟩:=(se [ab,aa] fT).g12 h2 h4 h5 h6 h7 E W ae af J C O
    intro fg pl cI fU aw iQ
    have iR:=AS cI E.lt
    have iS:=AS cI W.lt
    have iT:=Ad cI J.size
    replace ⟨h2,h4,h5,h6,h7,E,W,ae,af,J,C,O⟩:=(se [ab,aa] fU).g12 h2 h4 h5 h6 h7 E W ae af J C O
    refine .go 5<|.ns 0 3 [] fun pm dO=>?_
    replace ⟨h2,h4,h5,h6,h7,E,W,ae,af,aw,J,C⟩:=(se [ab,aa] dO).g12 h2 h4 h5 h6 h7 E W ae af aw J C
    replace O:=(se [ab,aa] dO).g1 O
    intro bI li aO dP iU iV
    have iW:=AS aO E.lt
    have iX:=AS aO W.lt
    have iY:=AS aO aw.lt
    have iZ:=J.cn aO
    have ja:=C.cn aO
    have fV:=O.cn aO
    replace ⟨h2,h4,h5,h6,h7,E,W,ae,af,aw,J,C⟩:=(sn [ab,aa] dP aO).g12 h2 h4 h5 h6 h7 E W ae af aw J C
    replace O:=(sn [ab,aa] dP aO).g1 O
    have dQ:Own (α:=Int) li bI 3 (nin (ge w.heap.size) [bI,ab,aa]) 0 0 []:=Own.Ag iU
    refine .go 8<|GE.append (T:=24) (ty:=24) (args:=[vS bI 0 0,.slice a2 d.list.length c2]) AA fun pn dR=>?_
    replace ⟨h2,h4,h5,h6,h7,E,W,ae,af,aw,dQ,J⟩:=(se [bI,ab,aa] dR).g12 h2 h4 h5 h6 h7 E W ae af aw dQ J
    replace ⟨C,O⟩:=(se [bI,ab,aa] dR).g2 C O
    obtain ⟨bU,lj,po,gJ,bo,aI,cJ,jb⟩:=Own.Ay (P:=Tryz.prog) (T:=24) (ty:=24) BF dQ AA h2 (fun b h e=>h.2 (e▸AD)) (by have:=p0.nl; omega)
    refine ⟨_,_,gJ,Chg.toS cJ (Cov.toS fV),?_⟩
    have mV:=Ae aI iW E.lt
    have mW:=Ae aI iX W.lt
    have fW:=Ae aI iY aw.lt
    have mX:=Am aI iZ J.size
    have jc:=Am aI ja C.size
    have jd:=Am aI fV O.size
    replace ⟨h2,h4,h5,h6,h7,E,W,ae,af,aw,J,C⟩:=(sa [bI,ab,aa] cJ aI).g12 h2 h4 h5 h6 h7 E W ae af aw J C
    replace O:=(sa [bI,ab,aa] cJ aI).g1 O
    replace bo:=bo.rn bI
    have mY:=bo.len; have mZ:=bo.max
    refine .go 12<|GE.append (T:=24) (ty:=24) (args:=[vS bU (0+d.list.length) lj,vS fg 1 1]) AA fun pp dS=>?_
    replace ⟨h2,h4,h5,h6,h7,E,W,ae,af,aw,bo,J⟩:=(se [bU,ab,aa] dS).g12 h2 h4 h5 h6 h7 E W ae af aw bo J
    replace ⟨C,O⟩:=(se [bU,ab,aa] dS).g2 C O
    have fh:nin (ge w.heap.size) [bU,ab,aa] fg∧fg≠bU:=BG iT (all_cons (Nb.symm fW) (all_cons iS (all_cons iR all_nil))) (Nb.symm fW)
    obtain ⟨bd,lk,pq,gK,ax,dq,dT,je⟩:=bo.Ap (P:=Tryz.prog) (T:=24) (ty:=24) (y:=d.next) AA aw rfl fh (by have:=p0.nl; omega)
    refine ⟨_,_,gK,Chg.toS dT (Cov.toS jd),?_⟩
    have jf:=Am dq jc C.size
    replace ⟨h2,h4,h5,h6,h7,E,W,ae,af,J,C,O⟩:=(sa [bU,ab,aa] dT dq).g12 h2 h4 h5 h6 h7 E W ae af J C O
    replace ax:=ax.rn bU
    have m0:=ax.len; have m5:=ax.max
    refine .go 16<|.cl (fun fi cK=>Aj s.idx.names (h4.ta.ext cK) (by have:=p1.ix.g.len; omega) (by (intro n hn; have:=(p1.ix.g.sz n hn).1; omega)) (w:=fi) (F:=all)) ?_
    intro fi cK
    replace ⟨h2,h4,h5,h6,h7,E,W,ae,af,ax,J,C⟩:=(se [bd,ab,aa] cK).g12 h2 h4 h5 h6 h7 E W ae af ax J C
    replace O:=(se [bd,ab,aa] cK).g1 O
    rintro pr pu ⟨⟨cq,ll,lm,rfl,bq,b7⟩,cL⟩
    have fX:=al3 ax.lt W.lt E.lt
    have jg:Gb w.heap.size fi.heap.size:=J.size
    have hkeep_:=cL
    have jh:=Ab b7 ax.lt
    have ji:Cov nil bH cq:=BR b7 C.size
    replace ⟨h2,h4,h5,h6,h7,E,W,ae,af,ax,J,C⟩:=(sz [bd,ab,aa] cL b7).g12 h2 h4 h5 h6 h7 E W ae af ax J C
    replace O:=(sz [bd,ab,aa] cL b7).g1 O
    refine ⟨Ext.chg hkeep_,?_⟩
    replace bq:=Own.take (s0:=w.heap.size) (M:=[bd,ab,aa]) bq fX jg
    have m6:=bq.len; have m7:=bq.max
    refine .r [17]<|.d fun hV dU=>?_
    replace ⟨h2,h4,h5,h6,h7,E,W,ae,af,ax,bq,J⟩:=(se [cq,bd,ab,aa] dU).g12 h2 h4 h5 h6 h7 E W ae af ax bq J
    replace ⟨C,O⟩:=(se [cq,bd,ab,aa] dU).g2 C O
    replace h2:=h2.AU
    replace h4:=h4.AU
    replace h5:=h5.AU
    replace h6:=h6.AU
    replace h7:=h7.AU
    have cM:Mv [cq,bd,ab,aa] [bd,cq,ab,aa] hV hV:=Mv.less (all_cons AE (all_cons AD (all_cons AF (all_cons AG all_nil))))
    exact ⟨(hC,hD,hE,hH,bd,lk,cq,ll,lm),⟨AA,AA,trivial⟩,⟨C,(Ac jf),(Ac ji),jh,(RepS.mv ae cM),(RepS.mv af cM),(Own.mv ax cM (Chg.refl nil _) (fun h=>h)),(Own.mv bq cM (Chg.refl nil _) (fun h=>h))⟩⟩
   ·refine .ns 0 3 [] fun pw fY=>?_
    replace ⟨h2,h4,h5,h6,h7,E,W,J,C,O⟩:=(se [ab,aa] fY).g10 h2 h4 h5 h6 h7 E W J C O
    intro aj lp br fZ jj jk
    have dV:=AS br E.lt
    have dW:=AS br W.lt
    have dX:=J.cn br
    have dY:=C.cn br
    have bN:=O.cn br
    replace ⟨h2,h4,h5,h6,h7,E,W,J,C,O⟩:=(sn [ab,aa] fZ br).g10 h2 h4 h5 h6 h7 E W J C O
    have ai:Own (α:=Int) lp aj 3 (nin (ge w.heap.size) [aj,ab,aa]) 0 0 []:=Own.Ag jj
    refine .tw 3 11 ?_ ?_
    ·refine .cl (fun fj bO=>CE s (h4.ta.ext bO) (h5.ta.ext bO) (h6.ta.ext bO) (h7.ta.ext bO) (StoK.of (C9 p1 ‹_›) (C1 ‹_›).sk).row (StoK.of (C9 p1 ‹_›) (C1 ‹_›).sk).Ja.Hs (by have:=p1.nm2; omega) (w:=fj) (F:=all)) ?_
     intro fj bO
     replace ⟨h2,h4,h5,h6,h7,E,W,ai,J,C,O⟩:=(se [aj,ab,aa] bO).g11 h2 h4 h5 h6 h7 E W ai J C O
     rintro pz pA ⟨⟨_,rfl,⟨hW,pB,ia,ic,pC,ie,rfl,ag,ah⟩⟩,dZ⟩
     have d0:=al3 ai.lt W.lt E.lt
     have f0:Gb w.heap.size fj.heap.size:=J.size
     have hkeep_:=dZ
     replace ⟨h2,h4,h5,h6,h7,E,W,ai,J,C,O⟩:=(se [aj,ab,aa] dZ).g11 h2 h4 h5 h6 h7 E W ai J C O
     refine ⟨Ext.chg hkeep_,?_⟩
     have ag:=ag.fr d0 f0
     have m8:=ag.max
     have ah:=ah.fr d0 f0
     have m9:=ah.max
     have jl:=ag.len
     subst jl
     have jm:=ah.len
     subst jm
     refine .r [4]<|.tw 8 11 ?_ ?_
     ·refine GE.append (T:=24) (ty:=24) (args:=[vS aj 0 0,.slice a2 d.list.length c2]) AA fun pD d3=>?_
      replace ⟨h2,h4,h5,h6,h7,E,W,ai,ag,ah,J,C⟩:=(se [aj,ab,aa] d3).g12 h2 h4 h5 h6 h7 E W ai ag ah J C
      replace O:=(se [aj,ab,aa] d3).g1 O
      obtain ⟨aT,lq,pE,gL,aE,aU,d4,jn⟩:=Own.Ay (P:=Tryz.prog) (T:=24) (ty:=24) BF ai AA h2 (fun b h e=>h.2 (e▸AD)) (by have:=p0.nl; omega)
      refine ⟨_,_,gL,Chg.toS d4 (Cov.toS bN),?_⟩
      have nc:=Ae aU dV E.lt
      have ng:=Ae aU dW W.lt
      have nh:=Am aU dX J.size
      have jo:=Am aU dY C.size
      have jp:=Am aU bN O.size
      replace ⟨h2,h4,h5,h6,h7,E,W,ag,ah,J,C,O⟩:=(sa [aj,ab,aa] d4 aU).g12 h2 h4 h5 h6 h7 E W ag ah J C O
      replace aE:=aE.rn aj
      have ni:=aE.len; have nj:=aE.max
      refine .go 11<|.ns 1 3 [vI d.next] fun pF d5=>?_
      replace ⟨h2,h4,h5,h6,h7,E,W,aE,ag,ah,J,C⟩:=(se [aT,ab,aa] d5).g12 h2 h4 h5 h6 h7 E W aE ag ah J C
      replace O:=(se [aT,ab,aa] d5).g1 O
      intro fk pG b8 d6 d7 jq
      have jr:=AS b8 E.lt
      have js:=AS b8 W.lt
      have f5:=AS b8 aE.lt
      have jt:=Ad b8 J.size
      replace ⟨h2,h4,h5,h6,h7,E,W,aE,ag,ah,J,C⟩:=(se [aT,ab,aa] d6).g12 h2 h4 h5 h6 h7 E W aE ag ah J C
      replace O:=(se [aT,ab,aa] d6).g1 O
      refine .go 12<|GE.append (T:=24) (ty:=24) (args:=[vS aT (0+d.list.length) lq,vS fk 1 1]) AA fun pH d8=>?_
      replace ⟨h2,h4,h5,h6,h7,E,W,aE,ag,ah,d7,J⟩:=(se [aT,ab,aa] d8).g12 h2 h4 h5 h6 h7 E W aE ag ah d7 J
      replace ⟨C,O⟩:=(se [aT,ab,aa] d8).g2 C O
      have fm:nin (ge w.heap.size) [aT,ab,aa] fk∧fk≠aT:=BG jt (all_cons f5 (all_cons js (all_cons jr all_nil))) f5
      obtain ⟨bg,ls,pI,gM,ay,dr,d9,ju⟩:=aE.Ap (P:=Tryz.prog) (T:=24) (ty:=24) (y:=d.next) AA d7 rfl fm (by have:=p0.nl; omega)
      refine ⟨_,_,gM,Chg.toS d9 (Cov.toS jp),?_⟩
      have jv:=Am dr jo C.size
      replace ⟨h2,h4,h5,h6,h7,E,W,ag,ah,J,C,O⟩:=(sa [aT,ab,aa] d9 dr).g12 h2 h4 h5 h6 h7 E W ag ah J C O
      replace ay:=ay.rn aT
      have nq:=ay.len; have nt:=ay.max
      refine .go 16<|.cl (fun fp cN=>Aj s.idx.names (h4.ta.ext cN) (by have:=p1.ix.g.len; omega) (by (intro n hn; have:=(p1.ix.g.sz n hn).1; omega)) (w:=fp) (F:=all)) ?_
      intro fp cN
      replace ⟨h2,h4,h5,h6,h7,E,W,ay,ag,ah,J,C⟩:=(se [bg,ab,aa] cN).g12 h2 h4 h5 h6 h7 E W ay ag ah J C
      replace O:=(se [bg,ab,aa] cN).g1 O
      rintro pJ pK ⟨⟨cr,lu,lv,rfl,bt,b9⟩,cO⟩
      have f6:=al3 ay.lt W.lt E.lt
      have jw:Gb w.heap.size fp.heap.size:=J.size
      have hkeep_:=cO
      have jx:=Ab b9 ay.lt
      have jy:Cov nil bH cr:=BR b9 C.size
      replace ⟨h2,h4,h5,h6,h7,E,W,ay,ag,ah,J,C⟩:=(sz [bg,ab,aa] cO b9).g12 h2 h4 h5 h6 h7 E W ay ag ah J C
      replace O:=(sz [bg,ab,aa] cO b9).g1 O
      refine ⟨Ext.chg hkeep_,?_⟩
      replace bt:=Own.take (s0:=w.heap.size) (M:=[bg,ab,aa]) bt f6 jw
      have nu:=bt.len; have nv:=bt.max
      refine .r [17]<|.d fun ig ec=>?_
      replace ⟨h2,h4,h5,h6,h7,E,W,ay,ag,ah,bt,J⟩:=(se [cr,bg,ab,aa] ec).g12 h2 h4 h5 h6 h7 E W ay ag ah bt J
      replace ⟨C,O⟩:=(se [cr,bg,ab,aa] ec).g2 C O
      replace h2:=h2.AU
      replace h4:=h4.AU
      replace h5:=h5.AU
      replace h6:=h6.AU
      replace h7:=h7.AU
      have cP:Mv [cr,bg,ab,aa] [bg,cr,ab,aa] ig ig:=Mv.less (all_cons AE (all_cons AD (all_cons AF (all_cons AG all_nil))))
      exact ⟨(hW,ia,ic,ie,bg,ls,cr,lu,lv),⟨AA,AA,trivial⟩,⟨C,(Ac jv),(Ac jy),jx,(RepS.mv ag cP),(RepS.mv ah cP),(Own.mv ay cP (Chg.refl nil _) (fun h=>h)),(Own.mv bt cP (Chg.refl nil _) (fun h=>h))⟩⟩
     refine .ns 1 3 [vI d.next] fun pL ed=>?_
     replace ⟨h2,h4,h5,h6,h7,E,W,ai,ag,ah,J,C⟩:=(se [aj,ab,aa] ed).g12 h2 h4 h5 h6 h7 E W ai ag ah J C
     replace O:=(se [aj,ab,aa] ed).g1 O
     intro fq pM cd ee aX jz
     have jA:=AS cd E.lt
     have jB:=AS cd W.lt
     have jC:=AS cd ai.lt
     have jD:=Ad cd J.size
     replace ⟨h2,h4,h5,h6,h7,E,W,ai,ag,ah,J,C⟩:=(se [aj,ab,aa] ee).g12 h2 h4 h5 h6 h7 E W ai ag ah J C
     replace O:=(se [aj,ab,aa] ee).g1 O
     refine .go 8<|GE.append (T:=24) (ty:=24) (args:=[vS aj 0 0,.slice a2 d.list.length c2]) AA fun pN ef=>?_
     replace ⟨h2,h4,h5,h6,h7,E,W,ai,ag,ah,aX,J⟩:=(se [aj,ab,aa] ef).g12 h2 h4 h5 h6 h7 E W ai ag ah aX J
     replace ⟨C,O⟩:=(se [aj,ab,aa] ef).g2 C O
     obtain ⟨bV,lw,pO,gN,bu,aJ,cQ,jE⟩:=Own.Ay (P:=Tryz.prog) (T:=24) (ty:=24) BF ai AA h2 (fun b h e=>h.2 (e▸AD)) (by have:=p0.nl; omega)
     refine ⟨_,_,gN,Chg.toS cQ (Cov.toS bN),?_⟩
     have nz:=Ae aJ dV E.lt
     have nA:=Ae aJ dW W.lt
     have f7:=Ae aJ (Nb.symm jC) aX.lt
     have nB:=Am aJ dX J.size
     have jF:=Am aJ dY C.size
     have jG:=Am aJ bN O.size
     replace ⟨h2,h4,h5,h6,h7,E,W,ag,ah,aX,J,C⟩:=(sa [aj,ab,aa] cQ aJ).g12 h2 h4 h5 h6 h7 E W ag ah aX J C
     replace O:=(sa [aj,ab,aa] cQ aJ).g1 O
     replace bu:=bu.rn aj
     have nC:=bu.len; have nD:=bu.max
     refine .go 12<|GE.append (T:=24) (ty:=24) (args:=[vS bV (0+d.list.length) lw,vS fq 1 1]) AA fun pP eg=>?_
     replace ⟨h2,h4,h5,h6,h7,E,W,bu,ag,ah,aX,J⟩:=(se [bV,ab,aa] eg).g12 h2 h4 h5 h6 h7 E W bu ag ah aX J
     replace ⟨C,O⟩:=(se [bV,ab,aa] eg).g2 C O
     have ft:nin (ge w.heap.size) [bV,ab,aa] fq∧fq≠bV:=BG jD (all_cons (Nb.symm f7) (all_cons jB (all_cons jA all_nil))) (Nb.symm f7)
     obtain ⟨bh,ly,pQ,gO,az,dt,eh,jH⟩:=bu.Ap (P:=Tryz.prog) (T:=24) (ty:=24) (y:=d.next) AA aX rfl ft (by have:=p0.nl; omega)
     refine ⟨_,_,gO,Chg.toS eh (Cov.toS jG),?_⟩
     have jI:=Am dt jF C.size
     replace ⟨h2,h4,h5,h6,h7,E,W,ag,ah,J,C,O⟩:=(sa [bV,ab,aa] eh dt).g12 h2 h4 h5 h6 h7 E W ag ah J C O
     replace az:=az.rn bV
     have nE:=az.len; have nF:=az.max
     refine .go 16<|.cl (fun fu cR=>Aj s.idx.names (h4.ta.ext cR) (by have:=p1.ix.g.len; omega) (by (intro n hn; have:=(p1.ix.g.sz n hn).1; omega)) (w:=fu) (F:=all)) ?_
     intro fu cR
     replace ⟨h2,h4,h5,h6,h7,E,W,az,ag,ah,J,C⟩:=(se [bh,ab,aa] cR).g12 h2 h4 h5 h6 h7 E W az ag ah J C
     replace O:=(se [bh,ab,aa] cR).g1 O
     rintro pR pS ⟨⟨cu,lz,lA,rfl,bv,ce⟩,cS⟩
     have f8:=al3 az.lt W.lt E.lt
     have jJ:Gb w.heap.size fu.heap.size:=J.size
     have hkeep_:=cS
     have jK:=Ab ce az.lt
     have jL:Cov nil bH cu:=BR ce C.size
     replace ⟨h2,h4,h5,h6,h7,E,W,az,ag,ah,J,C⟩:=(sz [bh,ab,aa] cS ce).g12 h2 h4 h5 h6 h7 E W az ag ah J C
     replace O:=(sz [bh,ab,aa] cS ce).g1 O
     refine ⟨Ext.chg hkeep_,?_⟩
     replace bv:=Own.take (s0:=w.heap.size) (M:=[bh,ab,aa]) bv f8 jJ
     have nG:=bv.len; have nH:=bv.max
     refine .r [17]<|.d fun ii ej=>?_
     replace ⟨h2,h4,h5,h6,h7,E,W,az,ag,ah,bv,J⟩:=(se [cu,bh,ab,aa] ej).g12 h2 h4 h5 h6 h7 E W az ag ah bv J
     replace ⟨C,O⟩:=(se [cu,bh,ab,aa] ej).g2 C O
     replace h2:=h2.AU
     replace h4:=h4.AU
     replace h5:=h5.AU
     replace h6:=h6.AU
     replace h7:=h7.AU
     have cT:Mv [cu,bh,ab,aa] [bh,cu,ab,aa] ii ii:=Mv.less (all_cons AE (all_cons AD (all_cons AF (all_cons AG all_nil))))
     exact ⟨(hW,ia,ic,ie,bh,ly,cu,lz,lA),⟨AA,AA,trivial⟩,⟨C,(Ac jI),(Ac jL),jK,(RepS.mv ag cT),(RepS.mv ah cT),(Own.mv az cT (Chg.refl nil _) (fun h=>h)),(Own.mv bv cT (Chg.refl nil _) (fun h=>h))⟩⟩
    refine .ns 1 3 [vI d.next] fun pT f9=>?_
    replace ⟨h2,h4,h5,h6,h7,E,W,ai,J,C,O⟩:=(se [aj,ab,aa] f9).g11 h2 h4 h5 h6 h7 E W ai J C O
    intro fv pU cg ga aF jM
    have jN:=AS cg E.lt
    have jO:=AS cg W.lt
    have jP:=AS cg ai.lt
    have jQ:=Ad cg J.size
    replace ⟨h2,h4,h5,h6,h7,E,W,ai,J,C,O⟩:=(se [aj,ab,aa] ga).g11 h2 h4 h5 h6 h7 E W ai J C O
    refine .go 3<|.cl (fun fw bP=>CE s (h4.ta.ext bP) (h5.ta.ext bP) (h6.ta.ext bP) (h7.ta.ext bP) (StoK.of (C9 p1 ‹_›) (C1 ‹_›).sk).row (StoK.of (C9 p1 ‹_›) (C1 ‹_›).sk).Ja.Hs (by have:=p1.nm2; omega) (w:=fw) (F:=all)) ?_
    intro fw bP
    replace ⟨h2,h4,h5,h6,h7,E,W,ai,aF,J,C,O⟩:=(se [aj,ab,aa] bP).g12 h2 h4 h5 h6 h7 E W ai aF J C O
    rintro pV pW ⟨⟨_,rfl,⟨lB,pX,lC,lD,pY,lE,rfl,am,ao⟩⟩,ek⟩
    have en:=al3 ai.lt W.lt E.lt
    have gb:Gb w.heap.size fw.heap.size:=J.size
    have hkeep_:=ek
    replace ⟨h2,h4,h5,h6,h7,E,W,ai,aF,J,C,O⟩:=(se [aj,ab,aa] ek).g12 h2 h4 h5 h6 h7 E W ai aF J C O
    refine ⟨Ext.chg hkeep_,?_⟩
    have am:=am.fr en gb
    have nI:=am.max
    have ao:=ao.fr en gb
    have nJ:=ao.max
    have jR:=am.len
    subst jR
    have jS:=ao.len
    subst jS
    refine .r [4]<|.go 8<|GE.append (T:=24) (ty:=24) (args:=[vS aj 0 0,.slice a2 d.list.length c2]) AA fun pZ et=>?_
    replace ⟨h2,h4,h5,h6,h7,E,W,ai,aF,am,ao,J⟩:=(se [aj,ab,aa] et).g12 h2 h4 h5 h6 h7 E W ai aF am ao J
    replace ⟨C,O⟩:=(se [aj,ab,aa] et).g2 C O
    obtain ⟨bW,lF,p2,gP,bw,aK,cU,jT⟩:=Own.Ay (P:=Tryz.prog) (T:=24) (ty:=24) BF ai AA h2 (fun b h e=>h.2 (e▸AD)) (by have:=p0.nl; omega)
    refine ⟨_,_,gP,Chg.toS cU (Cov.toS bN),?_⟩
    have nK:=Ae aK dV E.lt
    have nL:=Ae aK dW W.lt
    have gf:=Ae aK (Nb.symm jP) aF.lt
    have nM:=Am aK dX J.size
    have jU:=Am aK dY C.size
    have jV:=Am aK bN O.size
    replace ⟨h2,h4,h5,h6,h7,E,W,aF,am,ao,J,C⟩:=(sa [aj,ab,aa] cU aK).g12 h2 h4 h5 h6 h7 E W aF am ao J C
    replace O:=(sa [aj,ab,aa] cU aK).g1 O
    replace bw:=bw.rn aj
    have nN:=bw.len; have nO:=bw.max
    refine .go 12<|GE.append (T:=24) (ty:=24) (args:=[vS bW (0+d.list.length) lF,vS fv 1 1]) AA fun p3 ey=>?_
    replace ⟨h2,h4,h5,h6,h7,E,W,bw,aF,am,ao,J⟩:=(se [bW,ab,aa] ey).g12 h2 h4 h5 h6 h7 E W bw aF am ao J
    replace ⟨C,O⟩:=(se [bW,ab,aa] ey).g2 C O
    have fz:nin (ge w.heap.size) [bW,ab,aa] fv∧fv≠bW:=BG jQ (all_cons (Nb.symm gf) (all_cons jO (all_cons jN all_nil))) (Nb.symm gf)
    obtain ⟨bi,lG,p4,gQ,aA,du,ez,jW⟩:=bw.Ap (P:=Tryz.prog) (T:=24) (ty:=24) (y:=d.next) AA aF rfl fz (by have:=p0.nl; omega)
    refine ⟨_,_,gQ,Chg.toS ez (Cov.toS jV),?_⟩
    have jX:=Am du jU C.size
    replace ⟨h2,h4,h5,h6,h7,E,W,am,ao,J,C,O⟩:=(sa [bW,ab,aa] ez du).g12 h2 h4 h5 h6 h7 E W am ao J C O
    replace aA:=aA.rn bW
    have nP:=aA.len; have nQ:=aA.max
    refine .go 16<|.cl (fun fA cV=>Aj s.idx.names (h4.ta.ext cV) (by have:=p1.ix.g.len; omega) (by (intro n hn; have:=(p1.ix.g.sz n hn).1; omega)) (w:=fA) (F:=all)) ?_
    intro fA cV
    replace ⟨h2,h4,h5,h6,h7,E,W,aA,am,ao,J,C⟩:=(se [bi,ab,aa] cV).g12 h2 h4 h5 h6 h7 E W aA am ao J C
    replace O:=(se [bi,ab,aa] cV).g1 O
    rintro p5 p6 ⟨⟨cv,lH,lI,rfl,bz,ci⟩,cW⟩
    have gh:=al3 aA.lt W.lt E.lt
    have jY:Gb w.heap.size fA.heap.size:=J.size
    have hkeep_:=cW
    have jZ:=Ab ci aA.lt
    have j0:Cov nil bH cv:=BR ci C.size
    replace ⟨h2,h4,h5,h6,h7,E,W,aA,am,ao,J,C⟩:=(sz [bi,ab,aa] cW ci).g12 h2 h4 h5 h6 h7 E W aA am ao J C
    replace O:=(sz [bi,ab,aa] cW ci).g1 O
    refine ⟨Ext.chg hkeep_,?_⟩
    replace bz:=Own.take (s0:=w.heap.size) (M:=[bi,ab,aa]) bz gh jY
    have nR:=bz.len; have nT:=bz.max
    refine .r [17]<|.d fun ij eA=>?_
    replace ⟨h2,h4,h5,h6,h7,E,W,aA,am,ao,bz,J⟩:=(se [cv,bi,ab,aa] eA).g12 h2 h4 h5 h6 h7 E W aA am ao bz J
    replace ⟨C,O⟩:=(se [cv,bi,ab,aa] eA).g2 C O
    replace h2:=h2.AU
    replace h4:=h4.AU
    replace h5:=h5.AU
    replace h6:=h6.AU
    replace h7:=h7.AU
    have cX:Mv [cv,bi,ab,aa] [bi,cv,ab,aa] ij ij:=Mv.less (all_cons AE (all_cons AD (all_cons AF (all_cons AG all_nil))))
    exact ⟨(lB,lC,lD,lE,bi,lG,cv,lH,lI),⟨AA,AA,trivial⟩,⟨C,(Ac jX),(Ac j0),jZ,(RepS.mv am cX),(RepS.mv ao cX),(Own.mv aA cX (Chg.refl nil _) (fun h=>h)),(Own.mv bz cX (Chg.refl nil _) (fun h=>h))⟩⟩
   refine .ns 1 3 [vI d.next] fun p7 gi=>?_
   replace ⟨h2,h4,h5,h6,h7,E,W,J,C,O⟩:=(se [ab,aa] gi).g10 h2 h4 h5 h6 h7 E W J C O
   intro cw p8 cY gj ac j1
   have gk:=AS cY E.lt
   have gl:=AS cY W.lt
   have gm:=Ad cY J.size
   replace ⟨h2,h4,h5,h6,h7,E,W,J,C,O⟩:=(se [ab,aa] gj).g10 h2 h4 h5 h6 h7 E W J C O
   refine .tw 3 5 ?_ ?_
   ·refine .cl (fun fB bQ=>CE s (h4.ta.ext bQ) (h5.ta.ext bQ) (h6.ta.ext bQ) (h7.ta.ext bQ) (StoK.of (C9 p1 ‹_›) (C1 ‹_›).sk).row (StoK.of (C9 p1 ‹_›) (C1 ‹_›).sk).Ja.Hs (by have:=p1.nm2; omega) (w:=fB) (F:=all)) ?_
    intro fB bQ
    replace ⟨h2,h4,h5,h6,h7,E,W,ac,J,C,O⟩:=(se [ab,aa] bQ).g11 h2 h4 h5 h6 h7 E W ac J C O
    rintro p9 qa ⟨⟨_,rfl,⟨lJ,qb,lK,lL,qc,lM,rfl,ak,al⟩⟩,eB⟩
    have eC:=al2 W.lt E.lt
    have gn:Gb w.heap.size fB.heap.size:=J.size
    have hkeep_:=eB
    replace ⟨h2,h4,h5,h6,h7,E,W,ac,J,C,O⟩:=(se [ab,aa] eB).g11 h2 h4 h5 h6 h7 E W ac J C O
    refine ⟨Ext.chg hkeep_,?_⟩
    have ak:=ak.fr eC gn
    have nU:=ak.max
    have al:=al.fr eC gn
    have nV:=al.max
    have j2:=ak.len
    subst j2
    have j3:=al.len
    subst j3
    refine .r [4]<|.go 5<|.ns 0 3 [] fun qd eD=>?_
    replace ⟨h2,h4,h5,h6,h7,E,W,ac,ak,al,J,C⟩:=(se [ab,aa] eD).g12 h2 h4 h5 h6 h7 E W ac ak al J C
    replace O:=(se [ab,aa] eD).g1 O
    intro bJ lN aP eE j4 j5
    have j6:=AS aP E.lt
    have j7:=AS aP W.lt
    have j8:=AS aP ac.lt
    have j9:=J.cn aP
    have ka:=C.cn aP
    have gp:=O.cn aP
    replace ⟨h2,h4,h5,h6,h7,E,W,ac,ak,al,J,C⟩:=(sn [ab,aa] eE aP).g12 h2 h4 h5 h6 h7 E W ac ak al J C
    replace O:=(sn [ab,aa] eE aP).g1 O
    have eF:Own (α:=Int) lN bJ 3 (nin (ge w.heap.size) [bJ,ab,aa]) 0 0 []:=Own.Ag j4
    refine .go 8<|GE.append (T:=24) (ty:=24) (args:=[vS bJ 0 0,.slice a2 d.list.length c2]) AA fun qe eG=>?_
    replace ⟨h2,h4,h5,h6,h7,E,W,ac,ak,al,eF,J⟩:=(se [bJ,ab,aa] eG).g12 h2 h4 h5 h6 h7 E W ac ak al eF J
    replace ⟨C,O⟩:=(se [bJ,ab,aa] eG).g2 C O
    obtain ⟨bK,lO,qf,gR,bA,aL,cZ,kb⟩:=Own.Ay (P:=Tryz.prog) (T:=24) (ty:=24) BF eF AA h2 (fun b h e=>h.2 (e▸AD)) (by have:=p0.nl; omega)
    refine ⟨_,_,gR,Chg.toS cZ (Cov.toS gp),?_⟩
    have nW:=Ae aL j6 E.lt
    have nX:=Ae aL j7 W.lt
    have gq:=Ae aL j8 ac.lt
    have nY:=Am aL j9 J.size
    have kd:=Am aL ka C.size
    have ke:=Am aL gp O.size
    replace ⟨h2,h4,h5,h6,h7,E,W,ac,ak,al,J,C⟩:=(sa [bJ,ab,aa] cZ aL).g12 h2 h4 h5 h6 h7 E W ac ak al J C
    replace O:=(sa [bJ,ab,aa] cZ aL).g1 O
    replace bA:=bA.rn bJ
    have nZ:=bA.len; have n8:=bA.max
    refine .go 12<|GE.append (T:=24) (ty:=24) (args:=[vS bK (0+d.list.length) lO,vS cw 1 1]) AA fun qg eH=>?_
    replace ⟨h2,h4,h5,h6,h7,E,W,ac,ak,al,bA,J⟩:=(se [bK,ab,aa] eH).g12 h2 h4 h5 h6 h7 E W ac ak al bA J
    replace ⟨C,O⟩:=(se [bK,ab,aa] eH).g2 C O
    have fC:nin (ge w.heap.size) [bK,ab,aa] cw∧cw≠bK:=BG gm (all_cons (Nb.symm gq) (all_cons gl (all_cons gk all_nil))) (Nb.symm gq)
    obtain ⟨bj,lP,qh,gS,aB,cj,c8,kf⟩:=bA.Ap (P:=Tryz.prog) (T:=24) (ty:=24) (y:=d.next) AA ac rfl fC (by have:=p0.nl; omega)
    refine ⟨_,_,gS,Chg.toS c8 (Cov.toS ke),?_⟩
    have kg:=Am cj kd C.size
    replace ⟨h2,h4,h5,h6,h7,E,W,ac,ak,al,J,C⟩:=(sa [bK,ab,aa] c8 cj).g12 h2 h4 h5 h6 h7 E W ac ak al J C
    replace O:=(sa [bK,ab,aa] c8 cj).g1 O
    replace aB:=aB.rn bK
    have n9:=aB.len; have oa:=aB.max
    refine .go 16<|.cl (fun fD c9=>Aj s.idx.names (h4.ta.ext c9) (by have:=p1.ix.g.len; omega) (by (intro n hn; have:=(p1.ix.g.sz n hn).1; omega)) (w:=fD) (F:=all)) ?_
    intro fD c9
    replace ⟨h2,h4,h5,h6,h7,E,W,ac,ak,al,aB,J⟩:=(se [bj,ab,aa] c9).g12 h2 h4 h5 h6 h7 E W ac ak al aB J
    replace ⟨C,O⟩:=(se [bj,ab,aa] c9).g2 C O
    rintro qi qj ⟨⟨cx,lQ,lR,rfl,bB,ck⟩,da⟩
    have gr:=al3 aB.lt W.lt E.lt
    have kh:Gb w.heap.size fD.heap.size:=J.size
    have hkeep_:=da
    have ki:=Ab ck aB.lt
    have kj:Cov nil bH cx:=BR ck C.size
    replace ⟨h2,h4,h5,h6,h7,E,W,ac,ak,al,aB,J⟩:=(sz [bj,ab,aa] da ck).g12 h2 h4 h5 h6 h7 E W ac ak al aB J
    replace ⟨C,O⟩:=(sz [bj,ab,aa] da ck).g2 C O
    refine ⟨Ext.chg hkeep_,?_⟩
    replace bB:=Own.take (s0:=w.heap.size) (M:=[bj,ab,aa]) bB gr kh
    have oc:=bB.len; have od:=bB.max
    refine .r [17]<|.d fun ik eI=>?_
    replace ⟨h2,h4,h5,h6,h7,E,W,ac,ak,al,aB,bB⟩:=(se [cx,bj,ab,aa] eI).g12 h2 h4 h5 h6 h7 E W ac ak al aB bB
    replace ⟨J,C,O⟩:=(se [cx,bj,ab,aa] eI).g3 J C O
    replace h2:=h2.AU
    replace h4:=h4.AU
    replace h5:=h5.AU
    replace h6:=h6.AU
    replace h7:=h7.AU
    have db:Mv [cx,bj,ab,aa] [bj,cx,ab,aa] ik ik:=Mv.less (all_cons AE (all_cons AD (all_cons AF (all_cons AG all_nil))))
    exact ⟨(lJ,lK,lL,lM,bj,lP,cx,lQ,lR),⟨AA,AA,trivial⟩,⟨C,(Ac kg),(Ac kj),ki,(RepS.mv ak db),(RepS.mv al db),(Own.mv aB db (Chg.refl nil _) (fun h=>h)),(Own.mv bB db (Chg.refl nil _) (fun h=>h))⟩⟩
   refine .ns 0 3 [] fun qk gs=>?_
   replace ⟨h2,h4,h5,h6,h7,E,W,ac,J,C,O⟩:=(se [ab,aa] gs).g11 h2 h4 h5 h6 h7 E W ac J C O
   intro bL lS aY gt kk kl
   have km:=AS aY E.lt
   have ko:=AS aY W.lt
   have kr:=AS aY ac.lt
   have ks:=J.cn aY
   have kt:=C.cn aY
   have gu:=O.cn aY
   replace ⟨h2,h4,h5,h6,h7,E,W,ac,J,C,O⟩:=(sn [ab,aa] gt aY).g11 h2 h4 h5 h6 h7 E W ac J C O
   have aZ:Own (α:=Int) lS bL 3 (nin (ge w.heap.size) [bL,ab,aa]) 0 0 []:=Own.Ag kk
   refine .go 3<|.cl (fun fE bR=>CE s (h4.ta.ext bR) (h5.ta.ext bR) (h6.ta.ext bR) (h7.ta.ext bR) (StoK.of (C9 p1 ‹_›) (C1 ‹_›).sk).row (StoK.of (C9 p1 ‹_›) (C1 ‹_›).sk).Ja.Hs (by have:=p1.nm2; omega) (w:=fE) (F:=all)) ?_
   intro fE bR
   replace ⟨h2,h4,E,W,ac,aZ,J,C,O⟩:=(se [bL,ab,aa] bR).g9 h2 h4 E W ac aZ J C O
   rintro ql qm ⟨⟨_,rfl,⟨lT,qn,lU,lV,qo,lW,rfl,aq,ar⟩⟩,eJ⟩
   have eK:=al3 aZ.lt W.lt E.lt
   have gv:Gb w.heap.size fE.heap.size:=J.size
   have hkeep_:=eJ
   replace ⟨h2,h4,E,W,ac,aZ,J,C,O⟩:=(se [bL,ab,aa] eJ).g9 h2 h4 E W ac aZ J C O
   refine ⟨Ext.chg hkeep_,?_⟩
   have aq:=aq.fr eK gv
   have oe:=aq.max
   have ar:=ar.fr eK gv
   have og:=ar.max
   have ku:=aq.len
   subst ku
   have kv:=ar.len
   subst kv
   refine .r [4]<|.go 8<|GE.append (T:=24) (ty:=24) (args:=[vS bL 0 0,.slice a2 d.list.length c2]) AA fun qp gw=>?_
   replace ⟨h2,h4,E,W,ac,aZ,aq,ar,J,C,O⟩:=(se [bL,ab,aa] gw).g11 h2 h4 E W ac aZ aq ar J C O
   obtain ⟨cy,lX,qq,gT,bC,aN,eL,kw⟩:=Own.Ay (P:=Tryz.prog) (T:=24) (ty:=24) BF aZ AA h2 (fun b h e=>h.2 (e▸AD)) (by have:=p0.nl; omega)
   refine ⟨_,_,gT,Chg.toS eL (Cov.toS gu),?_⟩
   have oh:=Ae aN km E.lt
   have ol:=Ae aN ko W.lt
   have gx:=Ae aN kr ac.lt
   have om:=Am aN ks J.size
   have kx:=Am aN kt C.size
   have ky:=Am aN gu O.size
   replace ⟨h4,E,W,ac,aq,ar,J,C⟩:=(sa [bL,ab,aa] eL aN).g8 h4 E W ac aq ar J C
   replace bC:=bC.rn bL
   have oo:=bC.len; have oq:=bC.max
   refine .go 12<|GE.append (T:=24) (ty:=24) (args:=[vS cy (0+d.list.length) lX,vS cw 1 1]) AA fun qr gy=>?_
   replace ⟨h4,E,W,ac,bC,aq,ar,J,C⟩:=(se [cy,ab,aa] gy).g9 h4 E W ac bC aq ar J C
   have fF:nin (ge w.heap.size) [cy,ab,aa] cw∧cw≠cy:=BG gm (all_cons (Nb.symm gx) (all_cons gl (all_cons gk all_nil))) (Nb.symm gx)
   obtain ⟨bX,lY,qs,gU,aC,dv,eM,kz⟩:=bC.Ap (P:=Tryz.prog) (T:=24) (ty:=24) (y:=d.next) AA ac rfl fF (by have:=p0.nl; omega)
   refine ⟨_,_,gU,Chg.toS eM (Cov.toS ky),?_⟩
   have kA:=Am dv kx C.size
   replace ⟨h4,E,W,aq,ar,J,C⟩:=(sa [cy,ab,aa] eM dv).g7 h4 E W aq ar J C
   replace aC:=aC.rn cy
   have ou:=aC.len; have ov:=aC.max
   refine .go 16<|.cl (fun fG eN=>Aj s.idx.names (h4.ta.ext eN) (by have:=p1.ix.g.len; omega) (by (intro n hn; have:=(p1.ix.g.sz n hn).1; omega)) (w:=fG) (F:=all)) ?_
   intro fG eN
   replace ⟨E,W,aC,aq,ar,J,C⟩:=(se [bX,ab,aa] eN).g7 E W aC aq ar J C
   rintro qt qu ⟨⟨dw,lZ,l0,rfl,bD,de⟩,eO⟩
   have gz:=al3 aC.lt W.lt E.lt
   have kB:Gb w.heap.size fG.heap.size:=J.size
   have hkeep_:=eO
   have kC:=Ab de aC.lt
   have kD:Cov nil bH dw:=BR de C.size
   replace ⟨E,W,aC,aq,ar,J,C⟩:=(sz [bX,ab,aa] eO de).g7 E W aC aq ar J C
   refine ⟨Ext.chg hkeep_,?_⟩
   replace bD:=Own.take (s0:=w.heap.size) (M:=[bX,ab,aa]) bD gz kB
   have ow:=bD.len; have oz:=bD.max
   refine .r [17]<|.d fun il gA=>?_
   replace ⟨E,W,aC,aq,ar,bD,J,C⟩:=(se [dw,bX,ab,aa] gA).g8 E W aC aq ar bD J C
   have df:Mv [dw,bX,ab,aa] [bX,dw,ab,aa] il il:=Mv.less (all_cons AE (all_cons AD (all_cons AF (all_cons AG all_nil))))
   exact ⟨(lT,lU,lV,lW,bX,lY,dw,lZ,l0),⟨AA,AA,trivial⟩,⟨C,(Ac kA),(Ac kD),kC,(RepS.mv aq df),(RepS.mv ar df),(Own.mv aC df (Chg.refl nil _) (fun h=>h)),(Own.mv bD df (Chg.refl nil _) (fun h=>h))⟩⟩
  rintro ⟨eS,eT,eU,eV,aV,eW,aQ,eX,eY⟩ qv dy ⟨gC,dg,dh,oA,bE,bF,cz,bM⟩
  have oB:=Ab dg E.lt
  have oC:=Ab dg W.lt
  have kE:=Bd dg J.size
  have oD:=Ab dh E.lt
  have oE:=Ab dh W.lt
  have kF:=Bd dh J.size
  replace ⟨E,W,J⟩:=(se [] gC).g3 E W J
  have oF:=bE.len; have oG:=bE.max
  have oH:=bF.len; have oI:=bF.max
  have oJ:=cz.len; have oK:=cz.max
  have oL:=bM.len; have oM:=bM.max
  refine .ns 2 44 [vI 1,vI d.next,.slice eS (((BK s.mem).ids).length) eT,.slice eU (((BK s.mem).blocks).length) eV,.slice none 0 0,.slice none 0 0,vI 2,vI 0,.slice none 0 0,.slice none 0 0,vS aV (0+d.list.length+1) eW,vS aQ eX eY] fun dx fH bG gD kG kH=>?_
  have oN:=AS bG E.lt
  have oO:=AS bG W.lt
  have oP:=AS bG cz.lt
  have oQ:=AS bG bM.lt
  have kI:=Ad bG J.size
  replace ⟨E,W,bE,bF,cz,bM,J⟩:=(sn [aV,aQ,ab,aa] gD bG).g7 E W bE bF cz bM J
  have fI:=cz.sl kE
  replace ⟨bE,bF,bM⟩:=(sd fH [dx,aV,aQ,ab,aa] aV).g3 bE bF bM
  have l3:=bM.sl kF
  replace ⟨bE,bF,fI⟩:=(sd fH [dx,aQ,ab,aa] aQ).g3 bE bF fI
  have kJ:Own (α:=Stp) fH dx 44 (nin (ge w.heap.size) [dx,ab,aa]) 2 2 [(⟨1,d.next,(⟨(BK s.mem).ids,(BK s.mem).blocks⟩:Prt),([]:List Int),([]:List (List Tag))⟩:Stp),(⟨2,0,(⟨([]:List Int),([]:List (List Row))⟩:Prt),(([]++d.list)++[d.next]),s.idx.names⟩:Stp)]:=Own.lit kG rfl (by decide) ⟨⟨_,_,_,_,_,_,_,_,_,_,_,_,rfl,bE.oi,bF.oi,(RepS.Ag _ _ none 0 (by decide)),(RepS.Ag _ _ none 0 (by decide))⟩,⟨_,_,_,_,_,_,_,_,_,_,_,_,rfl,(RepS.Ag _ _ none 0 (by decide)),(RepS.Ag _ _ none 0 (by decide)),fI.oi,l3.oi⟩,rfl⟩
  refine .r 1<|.d ?_
  have l4:=kJ.sl kI
  exact .rt Tryz.func16 Tryz.results16 (vS dx 2 2) ⟨(l4.vl (by exact WL ‹_› ‹_› ‹_› ‹_› p0) (fun _ _ h=>h.1)),J⟩
 refine .r 1<|.d<|.ct<|.s<|.g<|.ns 0 44 [] fun fJ l6 dj gE kK kL=>?_
 have oR:=AS dj E.lt
 have oS:=AS dj W.lt
 have kM:=Ad dj J.size
 replace J:=(se [] gE).g1 J
 have kN:Own (α:=Stp) l6 fJ 44 (nin (ge w.heap.size) [fJ,ab,aa]) 0 0 []:=Own.Ag kK
 refine .r 1<|.d ?_
 have l7:=kN.sl kM
 exact .rt Tryz.func16 Tryz.results16 (vS fJ 0 0) ⟨(l7.vl (by exact Ux (.inr (.inr ‹_›))) (fun _ _ h=>h.1)),J⟩
end Go.Proofs.YtganlmloonielaaGreat
