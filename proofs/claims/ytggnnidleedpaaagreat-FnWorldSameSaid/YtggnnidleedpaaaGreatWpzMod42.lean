/- Blocks and parts merged, as the program does it: plain laws. -/
import Derived.Test.YtggnnidleedpaaaGreatWpzMod30
import Derived.Test.YtggnnidleedpaaaGreatWpzMod23
open Go.Proofs.Tryz
set_option linter.unusedVariables false
set_option linter.unusedSimpArgs false
namespace Go.Proofs.YtggnnidleedpaaaGreat
theorem JW {b:List Row}(h:Bg b=true):Blk b:=by
 unfold Bg at h
 simp only [AW] at h
 exact h.1
def CE (a b:List Row):List Row × Bool:=if Bg a=true∧Bg b=true∧¬ ((Bd a b).length:Int) > 24 then (Bd a b,true) else ([],false)
theorem J9 {a b:List Row}(h:Bg a=false∨Bg b=false):CE a b=([],false):=by
 unfold CE
 rw [if_neg]
 rintro ⟨h1,h2,_⟩
 rcases h with h | h
 ·rw [h] at h1; cases h1
 ·rw [h] at h2; cases h2
theorem PZ {a b out:List Row}(e:out=Bd a b) (_ha:Bg a=true) (_hb:Bg b=true) (h:(out.length:Int) > 24):[]=(CE a b).1∧false=(CE a b).2:=by
 subst e
 unfold CE
 rw [if_neg (fun q=>q.2.2 h)]
 exact ⟨rfl,rfl⟩
theorem Pa {a b out:List Row}(e:out=Bd a b) (ha:Bg a=true) (hb:Bg b=true) (h:¬ (out.length:Int) > 24):out=(CE a b).1∧true=(CE a b).2:=by
 subst e
 unfold CE
 rw [if_pos ⟨ha,hb,h⟩]
 exact ⟨rfl,rfl⟩
theorem R3 {a b:List Row}(h:(CE a b).2=true):(CE a b).1=Bd a b:=by
 unfold CE at h ⊢
 split at h
 ·rename_i h1; rw [if_pos h1]
 ·cases h
def okM (a b:Prt) (n:Nat):Bool:=(List.range n).all (fun i=>(CE (BH a ((i:Int)+1)) (BH b ((i:Int)+1))).2)
theorem R4 (a b:Prt) (n:Nat):okM a b (n+1)=(okM a b n&&(CE (BH a ((n:Int)+1)) (BH b ((n:Int)+1))).2):=by simp [okM,List.range_succ]
def CD (a b:Prt):Prt × Bool:=if Aw a=true∧Aw b=true∧okM a b 6=true then (BD a b,true) else (⟨[],[]⟩,false)
theorem KA {a b:Prt}(h:Aw a=false∨Aw b=false):CD a b=(⟨[],[]⟩,false):=by
 unfold CD
 rw [if_neg]
 rintro ⟨h1,h2,_⟩
 rcases h with h | h
 ·rw [h] at h1; cases h1
 ·rw [h] at h2; cases h2
theorem Pb {a b:Prt}{k:Nat}(h1:1≤k) (h2:k≤6) (h:(CE (BH a (k:Int)) (BH b (k:Int))).2=false):CD a b=(⟨[],[]⟩,false):=by
 unfold CD
 rw [if_neg]
 rintro ⟨_,_,h3⟩
 unfold okM at h3
 rw [List.all_eq_true] at h3
 have:=h3 (k - 1) (by simp; omega)
 rw [show ((k - 1:Nat):Int)+1=(k:Int) by omega,h] at this
 cases this
theorem Nc {a b:Prt}{k:Nat}(h:okM a b (k - 1)=true) (h1:1≤k) (h2:(CE (BH a (k:Int)) (BH b (k:Int))).2=true):okM a b (k+1 - 1)=true:=by
 rw [show k+1 - 1=(k - 1)+1 by omega,R4,h,show ((k - 1:Nat):Int)+1=(k:Int) by omega,h2]
 rfl
theorem Pc {a b:Prt}(ha:Aw a=true) (hb:Aw b=true){k:Nat}(hk:1≤k) (h:(CE (BH a (k:Int)) (BH b (k:Int))).2=true):BU a b (k+1 - 1)=BU a b (k - 1)++[(CE (BH a (k:Int)) (BH b (k:Int))).1]:=by
 have ea:BH a (k:Int)=partOf a (k:Int):=by unfold BH; rw [if_pos ha]
 have eb:BH b (k:Int)=partOf b (k:Int):=by unfold BH; rw [if_pos hb]
 rw [show k+1 - 1=(k - 1)+1 by omega,Hw,show ((k - 1:Nat):Int)+1=(k:Int) by omega,R3 h,ea,eb]
section
variable {a b:Prt} {k:Nat}
theorem Tp {o:List Int}(ha:Aw a=true) (hb:Aw b=true) (hk:1≤k) (h:(CE (BH a (k:Int)) (BH b (k:Int))).2=true) (e:o=(BN 0 (BU a b (k - 1))).1) (hl:((CE (BH a (k:Int)) (BH b (k:Int))).1.length:Int) > 0):o++[(k:Int)]=(BN 0 (BU a b (k+1 - 1))).1:=by
 rw [Pc ha hb hk h,DL,if_pos AB,e,Dp,show ((0:Nat):Int)+((k - 1:Nat):Int)+1=(k:Int) by omega]
theorem Tq {o:List Int}(ha:Aw a=true) (hb:Aw b=true) (hk:1≤k) (h:(CE (BH a (k:Int)) (BH b (k:Int))).2=true) (e:o=(BN 0 (BU a b (k - 1))).1) (hl:¬ ((CE (BH a (k:Int)) (BH b (k:Int))).1.length:Int) > 0):o=(BN 0 (BU a b (k+1 - 1))).1:=by
 rw [Pc ha hb hk h,DL,if_neg AB,e]
theorem Tr {o:List (List Row)}(ha:Aw a=true) (hb:Aw b=true) (hk:1≤k) (h:(CE (BH a (k:Int)) (BH b (k:Int))).2=true) (e:o=(BN 0 (BU a b (k - 1))).2) (hl:((CE (BH a (k:Int)) (BH b (k:Int))).1.length:Int) > 0):o++[(CE (BH a (k:Int)) (BH b (k:Int))).1]=(BN 0 (BU a b (k+1 - 1))).2:=by
 rw [Pc ha hb hk h,DL,if_pos AB,e]
theorem Ts {o:List (List Row)}(ha:Aw a=true) (hb:Aw b=true) (hk:1≤k) (h:(CE (BH a (k:Int)) (BH b (k:Int))).2=true) (e:o=(BN 0 (BU a b (k - 1))).2) (hl:¬ ((CE (BH a (k:Int)) (BH b (k:Int))).1.length:Int) > 0):o=(BN 0 (BU a b (k+1 - 1))).2:=by
 rw [Pc ha hb hk h,DL,if_neg AB,e]
theorem Pd {x:List Int}{y:List (List Row)}(hk:k=7) (ha:Aw a=true) (hb:Aw b=true) (e1:x=(BN 0 (BU a b (k - 1))).1) (e2:y=(BN 0 (BU a b (k - 1))).2) (h:okM a b (k - 1)=true):(⟨x,y⟩:Prt)=(CD a b).1∧true=(CD a b).2:=by
 subst hk e1 e2
 unfold CD
 rw [if_pos ⟨ha,hb,h⟩]
 exact ⟨rfl,rfl⟩
end
theorem Lo {p:Prt}(h:Cv p) (id:Int):(BH p id).length≤1000:=by
 unfold BH
 split
 ·exact DG h id
 ·simp
def BQ (s:Sto) (at_:Int):Sto × Bool:=if Ad s then BG (Aa s) at_ else (⟨⟨[],[]⟩,[],[]⟩,false)
theorem JG {s:Sto}{i:Int}(h:Ad s=false):BQ s i=(⟨⟨[],[]⟩,[],[]⟩,false):=by unfold BQ; rw [if_neg (by simp [h])]
theorem Fx {s:Sto}{i:Int}(h:Ad s=true):BQ s i=BG (Aa s) i:=by unfold BQ; rw [if_pos h]
end Go.Proofs.YtggnnidleedpaaaGreat
namespace Go.Proofs.YtggnnidleedpaaaGreat
set_option maxRecDepth 100000
set_option maxHeartbeats 4000000
variable {w:World} {F:Nat→Prop} {a1 a2 a3 a4:Option Addr} {n1 c1 n2 c2 n3 c3 n4 c4:Nat}
theorem IM (a:List Row) (b:List Row) (h1:RepS w F a1 n1 c1 a) (h2:RepS w F a2 n2 c2 b) (p0:a.length≤1000) (p1:b.length≤1000):Calls Tryz.prog 140 [.slice a1 n1 c1,.slice a2 n2 c2].toArray w (Am fun rv w'=>(∃ v0,rv=.tuple #[v0,.bool ((CE a b).2)]∧VL (ge w.heap.size) w' ((CE a b).1:List Row) v0)∧Ext w w'):=by
 cases h1.len
 cases h2.len
 refine goT func140 ?_
 have Z:=((St.i0 F w).p h1).p h2
 refine .s<|.g<|.r 2<|.d<|.s<|.s<|.g<|.r 1<|RG.C0 (DI a (Z.a 1)) Z fun w Z=>?_
 cases am:(Bg a)
 ·exact .r 6<|.d<|.ct<|.s<|.g<|RG.N0 Row 0 Z fun ay w Z=>.r 2<|.d<|T.r2 func140 results140 (.T _) (.t (.bool false)) ⟨⟨_,(Bx rfl (AG (by exact (congrArg Prod.snd (J9 (.inl ‹_›))).symm))),Z.rM 0 ([]:List Row) (by exact (congrArg Prod.fst (J9 (.inl ‹_›))).symm)⟩,Z.xt⟩
 refine .r 3<|RG.C0 (DI b (Z.a 0)) Z fun w Z=>?_
 cases ao:(Bg b)
 ·exact .r 2<|.d<|.ct<|.s<|.g<|RG.N0 Row 0 Z fun az w Z=>.r 2<|.d<|T.r2 func140 results140 (.T _) (.t (.bool false)) ⟨⟨_,(Bx rfl (AG (by exact (congrArg Prod.snd (J9 (.inr ‹_›))).symm))),Z.rM 0 ([]:List Row) (by exact (congrArg Prod.fst (J9 (.inr ‹_›))).symm)⟩,Z.xt⟩
 refine .r 2<|.d<|.cf<|.sk<|.s<|.g<|RG.N0 Row 0 Z fun aA w Z=>.r 1<|RG.An (hf:=.inr Bo) 0 1 ([]:List Row) a Z fun ag ah w Z=>.r 1<|.d<|.s<|.s<|.g<|.r 3<|.d<|.b 0 ?_
 have Z:=Z.sl 0
 refine T.Lp ((([]++a):List Row),sA ag,ah,(0:Nat)) (fun (out,a_out,c_out,k)=>([(6,.slice a_out out.length c_out),(21,.slice a2 b.length c2),(22,vI (b.length:Int)),(23,vI (k:Int))],[],[⟨0,none,.rep a_out c_out out⟩],b.length - k,(k≤b.length)∧(Blk out)∧((b.drop k).foldl EC out=Bd a b))) [0] Z ⟨AB,(by exact JW ‹_›),AF⟩ ?_
 rintro ⟨out,a_out,c_out,k⟩ aB w Z ⟨aq,ar,au⟩ aa
 refine .s<|.g<|.bp ((k:Int)< (b.length:Int)) (fun ab=>?_) (fun ab=>.d<|.s<|.cf<|.x 0 rfl<|.s<|.s<|.g<|.r 2<|.bp ((out.length:Int) > 24) (fun ac=>.d<|.ct<|.s<|.g<|RG.N0 Row 0 Z fun aC w Z=>.r 2<|.d<|T.r2 func140 results140 (.T _) (.t (.bool false)) ⟨⟨_,(Bx rfl (AG (by exact (PZ (out:=out) (FD ‹_› AB) ‹_› ‹_› AB).2))),Z.rM 0 ([]:List Row) (by exact (PZ (out:=out) (FD ‹_› AB) ‹_› ‹_› AB).1)⟩,Z.xt⟩) fun ac=>.d<|.cf<|.sk<|.s<|.g<|.r 3<|.d<|T.r2 func140 results140 (.T _) (.t (.bool true)) ⟨⟨_,(Bx rfl (AG (by exact (Pa (out:=out) (FD ‹_› AB) ‹_› ‹_› AB).2))),Z.rL 0 out (by exact (Pa (out:=out) (FD ‹_› AB) ‹_› ‹_› AB).1)⟩,Z.xt⟩)
 exact .d<|.s<|.ct<|.sk<|.s<|.b 1<|.s<|.g<|gxb b k fun ae E ax af=>RG.Ix 2 E Z<|Z.el 2 E fun Z=>RG.Lg 0 0 Z<|RG.Np Z fun aD w Z=>RG.Ss 0 Z fun w Z=>.d<|.g<|.r 1<|RG.Ln 0 Z<|RG.CL (Hc out ae (Z.a 1) (by have:=Blk.len (by assumption:Blk out); omega)) Z fun ai aj w Z=>.r 1<|.d<|.ib 1<|.g<|.it ((k:Int)+1)<|.r 1<|.d<|aa (DO ae out,ai,aj,k+1) _ _ AA (Z.to 1 [0] 3) ⟨AB,(by exact Blk.ins ‹_› ((JW (by assumption:Bg b=true)).rows _ ‹_›)),(by rw [← FZ ‹_›]; exact E3 ‹_› ‹_›)⟩ (by (simp only []; omega))
theorem EM (a:Prt) (b:Prt) (h1:RepS w F a1 n1 c1 a.ids) (h2:RepS w F a2 n2 c2 a.blocks) (h3:RepS w F a3 n3 c3 b.ids) (h4:RepS w F a4 n4 c4 b.blocks) (p0:Cv a) (p1:Cv b):Calls Tryz.prog 99 [.agg #[.slice a1 n1 c1,.slice a2 n2 c2],.agg #[.slice a3 n3 c3,.slice a4 n4 c4]].toArray w (Am fun rv w'=>(∃ v0,rv=.tuple #[v0,.bool ((CD a b).2)]∧VS (ge w.heap.size) w' ((CD a b).1:Prt) v0)∧Ext w w'):=by
 refine goT func99 ?_
 obtain ⟨rfl,en,h1⟩:=h1.tp
 obtain ⟨rfl,ey,h2⟩:=h2.tp
 obtain ⟨rfl,ez,h3⟩:=h3.tp
 obtain ⟨rfl,eA,h4⟩:=h4.tp
 refine .s<|.g<|.np 48 [.slice a1 a.ids.length c1,.slice a2 a.blocks.length c2] fun ai fa bK bd aa cV=>?_
 replace ⟨h1,h2,h3,h4⟩:=(sn [] bd bK).g4 h1 h2 h3 h4
 have E:=bd
 refine .np 48 [.slice a3 b.ids.length c3,.slice a4 b.blocks.length c4] fun aj fb bL bM ab cW=>?_
 replace ⟨h1,h2,h3,h4,aa,E⟩:=(sn [ai] bM bL).g6 h1 h2 h3 h4 aa E
 refine .np 48 [AH,AH] fun ak dB aT bN ac cX=>?_
 have eB:=Ac aT aa.lt
 have eC:=Ac aT ab.lt
 have eD:=E.cn aT
 replace ⟨h1,h2,h3,h4,aa,ab,E⟩:=(sn [aj,ai] bN aT).g7 h1 h2 h3 h4 aa ab E
 refine .r 1<|.d<|.s<|.s<|.g<|.ln aa<|.cl (C4 a h1.ta h2.ta (w:=dB) (F:=all)) ?_
 rintro fd dC ⟨rfl,bO⟩
 replace ⟨h1,h2,h3,h4,aa,ab,ac,E⟩:=(se [ak,aj,ai] bO).g8 h1 h2 h3 h4 aa ab ac E
 cases eE:(Aw a)
 ·refine .r 6<|.d<|.ct<|.s<|.g<|.r 1<|.sc [AH,AH] ac fun fe bP cY cZ=>?_
  replace ⟨h1,h2,h3,h4,aa,ab,E⟩:=(so [ak,aj,ai] bP).g7 h1 h2 h3 h4 aa ab E
  exact .r 1<|.d<|.r2 func99 results99 (.bx cY) (.t (.bool false)) ⟨⟨_,(Bx rfl (AG (by exact (congrArg Prod.snd (KA (.inl ‹_›))).symm))),(VS.of (y:=(⟨([]:List Int),([]:List (List Row))⟩:Prt)) ⟨_,rfl,⟨_,_,_,_,_,_,rfl,(RepS.BO _ _ none 0 AE),(RepS.BO _ _ none 0 AE)⟩⟩ (by exact (congrArg Prod.fst (KA (.inl ‹_›))).symm))⟩,E⟩
 refine .r 2<|.ln ab<|.cl (C4 b h3.ta h4.ta (w:=dC) (F:=all)) ?_
 rintro ff fg ⟨rfl,bQ⟩
 replace ⟨h1,h2,h3,h4,aa,ab,ac,E⟩:=(se [ak,aj,ai] bQ).g8 h1 h2 h3 h4 aa ab ac E
 cases eF:(Aw b)
 ·refine .r 2<|.d<|.ct<|.s<|.g<|.r 1<|.sc [AH,AH] ac fun fi bR c7 c8=>?_
  replace ⟨h1,h2,h3,h4,aa,ab,E⟩:=(so [ak,aj,ai] bR).g7 h1 h2 h3 h4 aa ab E
  exact .r 1<|.d<|.r2 func99 results99 (.bx c7) (.t (.bool false)) ⟨⟨_,(Bx rfl (AG (by exact (congrArg Prod.snd (KA (.inr ‹_›))).symm))),(VS.of (y:=(⟨([]:List Int),([]:List (List Row))⟩:Prt)) ⟨_,rfl,⟨_,_,_,_,_,_,rfl,(RepS.BO _ _ none 0 AE),(RepS.BO _ _ none 0 AE)⟩⟩ (by exact (congrArg Prod.fst (KA (.inr ‹_›))).symm))⟩,E⟩
 refine .r 2<|.d<|.cf<|.sk<|.s<|.g<|.ns 0 3 [] fun aB dD aK bS c9 da=>?_
 have db:=Ac aK aa.lt
 have de:=Ac aK ab.lt
 have df:=Ac aK ac.lt
 have dh:=BW aK E.size
 have dj:=E.cn aK
 replace ⟨h1,h2,h3,h4,aa,ab,ac,E⟩:=(sn [ak,aj,ai] bS aK).g8 h1 h2 h3 h4 aa ab ac E
 have aD:Own (α:=Int) dD aB 3 (nin (ge w.heap.size) [aB,ak,aj,ai]) 0 0 []:=Own.BO c9
 refine .ns 0 62 [] fun aG dE aH bT dm dp=>?_
 have dq:=Ac aH aa.lt
 have dt:=Ac aH ab.lt
 have du:=Ac aH ac.lt
 have dv:=Ac aH aD.lt
 have dw:=BW aH E.size
 have dx:=E.cn aH
 replace ⟨h1,h2,h3,h4,aa,ab,ac,aD,E⟩:=(sn [aB,ak,aj,ai] bT aH).g9 h1 h2 h3 h4 aa ab ac aD E
 have aN:Own (α:=List Row) dE aG 62 (nin (ge w.heap.size) [aG,aB,ak,aj,ai]) 0 0 []:=Own.BO dm
 refine .r 1<|.np 48 [AH,AH] fun al fj aI bg bZ b0=>?_
 have dF:=Ac aI aa.lt
 have dG:=Ac aI ab.lt
 have dH:=Ac aI ac.lt
 have b6:=Ac aI aD.lt
 have b7:=Ac aI aN.lt
 have dI:=E.cn aI
 replace ⟨h1,h2,h3,h4,aa,ab,ac,aD,aN,E⟩:=(sn [aG,aB,ak,aj,ai] bg aI).g10 h1 h2 h3 h4 aa ab ac aD aN E
 refine .sc [vS aB 0 0,vS aG 0 0] bZ fun aL bh aU b8=>?_
 replace ⟨h1,h2,h3,h4,aa,ab,ac,aD,aN,E⟩:=(so [al,aG,aB,ak,aj,ai] bh).g10 h1 h2 h3 h4 aa ab ac aD aN E
 refine .d<|.s<|.s<|.g<|.r 1<|.d<|.b 0<|T.loop (X:=Nat × (List Int) × Nat × Nat × Nat × (List (List Row)) × Nat × Nat × Nat) (1,([]:List Int),aB,0,0,([]:List (List Row)),aG,0,0) (fun (j,au,r_out_0,n_out_0,c_out_0,ax,r_out_1,n_out_1,c_out_1)=>[(2,.pointer (some ⟨ai,0,none⟩)),(3,.pointer (some ⟨aj,0,none⟩)),(4,.pointer (some ⟨ak,0,none⟩)),(6,.pointer (some ⟨al,0,none⟩)),(7,vI (j:Int))]) (fun (j,au,r_out_0,n_out_0,c_out_0,ax,r_out_1,n_out_1,c_out_1) aO=>Chg (ins [aB,aG,al]) aL aO∧Own aO r_out_0 3 (nin (ge w.heap.size) [al,r_out_1,r_out_0,ak,aj,ai]) n_out_0 c_out_0 au∧OrB r_out_0 aB aL.heap.size∧Own aO r_out_1 62 (nin (ge w.heap.size) [al,r_out_1,r_out_0,ak,aj,ai]) n_out_1 c_out_1 ax∧OrB r_out_1 aG aL.heap.size∧Nb r_out_1 r_out_0∧Box aO al 48 [vS r_out_0 n_out_0 c_out_0,vS r_out_1 n_out_1 c_out_1]∧(1≤j)∧(j≤7)∧(au.length≤j)∧(ax.length≤j)∧(au=(BN 0 (BU a b (j - 1))).1)∧(ax=(BN 0 (BU a b (j - 1))).2)∧(okM a b (j - 1)=true)) (fun (j,au,r_out_0,n_out_0,c_out_0,ax,r_out_1,n_out_1,c_out_1)=>7 - j) AA ⟨AA,AA,AA,AA,AA,trivial⟩ ⟨Chg.refl _ _,aD,Dt,aN,Dt,dv,aU,AB,AB,(by (simp; done)),(by (simp; done)),AF,AF,AF⟩ ?_
 rintro ⟨j,au,r_out_0,n_out_0,c_out_0,ax,r_out_1,n_out_1,c_out_1⟩ eG aO ⟨af,ag,aq,ae,ar,bi,ah,dJ,dK,dL,dM,dN,dO,dP⟩ aP
 have dQ:=Ca aq db aa.lt
 have dR:=Ca aq de ab.lt
 have dS:=Ca aq df ac.lt
 have b9:=Ca aq (Nb.symm b6) aU.lt
 have cd:=Ij aq dh E.size
 have dT:=Co aq dj E.size
 have dU:=Ca ar dq aa.lt
 have dV:=Ca ar dt ab.lt
 have dW:=Ca ar du ac.lt
 have ce:=Ca ar (Nb.symm b7) aU.lt
 have cg:=Ij ar dw E.size
 have dX:=Co ar dx E.size
 have ci:Cov (ins [aB,aG,al]) aL aB:=⟨.inl AI⟩
 have cj:Cov (ins [aB,aG,al]) aL aG:=⟨.inl AJ⟩
 have dY:Cov (ins [aB,aG,al]) aL al:=⟨.inl AK⟩
 have dZ:=Co aq ci (Nat.le_refl _)
 have d0:=Co ar cj (Nat.le_refl _)
 have bj:Mv [al,aG,aB,ak,aj,ai] [al,r_out_1,r_out_0,ak,aj,ai] aL aO:=Mv.inl af (all_cons AK (all_cons AJ (all_cons AI all_nil))) (all_cons (.inl AI) (all_cons (E8 ar AJ) (all_cons (E8 aq AK) (all_cons (.inl AL) (all_cons (.inl AM) (all_cons (.inl AN) all_nil))))))
 replace ⟨h1,h2,h3,h4,aa,ab,ac,E⟩:=(sp bj af).g8 h1 h2 h3 h4 aa ab ac E
 have d3:=ag.len; have d4:=ag.max
 have d5:=ae.len; have d6:=ae.max
 refine .s<|.s<|.g<|.r 1<|.bp ((j:Int)≤6) (fun ck=>?_) (fun ck=>?_)
 ·refine .d<|.ct<|.sk<|.s<|.b 1<|.s<|.gd nil 11 fun eH bk=>?_
  replace ⟨h1,h2,h3,h4,aa,ab,ac,ag,ae,ah,E,af⟩:=(se [al,r_out_1,r_out_0,ak,aj,ai] bk).g12 h1 h2 h3 h4 aa ab ac ag ae ah E af
  refine .ln 0 aa id<|.r [1]<|.ln 3 ab id<|.r [4]<|.go 2<|.cl (fun bm aQ=>FN a (j:Int) (h1.ta.ext aQ) (h2.ta.ext aQ) (by exact p0) (w:=bm) (F:=all)) ?_
  intro bm aQ
  replace ⟨h3,h4,aa,ab,ac,ag,ae,ah,E,af⟩:=(se [al,r_out_1,r_out_0,ak,aj,ai] aQ).g10 h3 h4 aa ab ac ag ae ah E af
  rintro eI eJ ⟨⟨eK,eL,rfl,aJ⟩,aV⟩
  have bn:=al6 ah.lt ae.lt ag.lt ac.lt ab.lt aa.lt
  have cm:Gb w.heap.size bm.heap.size:=E.size
  have hkeep_:=aV
  replace ⟨h3,h4,aa,ab,ac,ag,ae,ah,E,af⟩:=(se [al,r_out_1,r_out_0,ak,aj,ai] aV).g10 h3 h4 aa ab ac ag ae ah E af
  refine ⟨Ext.chg hkeep_,?_⟩
  have aJ:=aJ.fr bn cm
  refine .go 5<|.cl (fun bo aR=>FN b (j:Int) (h3.ta.ext aR) (h4.ta.ext aR) (by exact p1) (w:=bo) (F:=all)) ?_
  intro bo aR
  replace ⟨aa,ab,ac,ag,ae,ah,aJ,E,af⟩:=(se [al,r_out_1,r_out_0,ak,aj,ai] aR).g9 aa ab ac ag ae ah aJ E af
  rintro eM eN ⟨⟨eO,eP,rfl,aY⟩,aW⟩
  have bq:=al6 ah.lt ae.lt ag.lt ac.lt ab.lt aa.lt
  have co:Gb w.heap.size bo.heap.size:=E.size
  have hkeep_:=aW
  replace ⟨aa,ab,ac,ag,ae,ah,aJ,E,af⟩:=(se [al,r_out_1,r_out_0,ak,aj,ai] aW).g9 aa ab ac ag ae ah aJ E af
  refine ⟨Ext.chg hkeep_,?_⟩
  have aY:=aY.fr bq co
  refine .go 6<|.cl (fun br aS=>IM (BH a (j:Int)) (BH b (j:Int)) (aJ.ta.ext aS) (aY.ta.ext aS) (by exact Lo p0 _) (by exact Lo p1 _) (w:=br) (F:=all)) ?_
  intro br aS
  replace ⟨aa,ab,ac,ag,ae,ah,E,af⟩:=(se [al,r_out_1,r_out_0,ak,aj,ai] aS).g8 aa ab ac ag ae ah E af
  rintro eQ eR ⟨⟨eS,rfl,⟨dy,dz,rfl,ao⟩⟩,aX⟩
  have bt:=al6 ah.lt ae.lt ag.lt ac.lt ab.lt aa.lt
  have cp:Gb w.heap.size br.heap.size:=E.size
  have hkeep_:=aX
  replace ⟨aa,ab,ac,ag,ae,ah,E,af⟩:=(se [al,r_out_1,r_out_0,ak,aj,ai] aX).g8 aa ab ac ag ae ah E af
  refine ⟨Ext.chg hkeep_,?_⟩
  have ao:=ao.fr bt cp
  refine .r [7,8] ?_
  cases ec:(CE (BH a (j:Int)) (BH b (j:Int))).2
  ·refine .r [9,10]<|.d fun eT bu=>?_
   replace ⟨aa,ab,ac,ag,ae,ah,ao,E,af⟩:=(se [al,r_out_1,r_out_0,ak,aj,ai] bu).g9 aa ab ac ag ae ah ao E af
   refine .r 1<|.d<|.s<|.s<|.g<|.r 2<|.d<|.ct<|.s<|.g<|.r 1<|.sc [AH,AH] ac fun eU bv cq cr=>?_
   replace ⟨aa,ab,ag,ae,ah,ao,E⟩:=(so [al,r_out_1,r_out_0,ak,aj,ai] bv).g7 aa ab ag ae ah ao E
   exact .r 1<|.d<|.r2 func99 results99 (.bx cq) (.t (.bool false)) ⟨⟨_,(Bx rfl (AG (by exact (congrArg Prod.snd (Pb (k:=j) AB AB ‹_›)).symm))),(VS.of (y:=(⟨([]:List Int),([]:List (List Row))⟩:Prt)) ⟨_,rfl,⟨_,_,_,_,_,_,rfl,(RepS.BO _ _ none 0 AE),(RepS.BO _ _ none 0 AE)⟩⟩ (by exact (congrArg Prod.fst (Pb (k:=j) AB AB ‹_›)).symm))⟩,E⟩
  refine .r [9,10]<|.d fun eV bw=>?_
  replace ⟨aa,ab,ac,ag,ae,ah,ao,E,af⟩:=(se [al,r_out_1,r_out_0,ak,aj,ai] bw).g9 aa ab ac ag ae ah ao E af
  refine .r 1<|.d<|.s<|.s<|.g<|.r 2<|.d<|.cf<|.sk<|.s<|.g<|.r 2<|.bp (((((CE (BH a (j:Int)) (BH b (j:Int))).1).length):Int) > 0) (fun cu=>?_) (fun cu=>.d<|.cf<|.sk<|.ib 1<|.g<|.r 1<|.it ((j:Int)+1)<|.r 1<|.d<|aP (j+1,au,r_out_0,n_out_0,c_out_0,ax,r_out_1,n_out_1,c_out_1) _ _ ⟨AA,AA,AA,AA,AA,trivial⟩ ⟨af,ag,aq,ae,ar,bi,ah,AB,AB,AB,AB,(by exact Tq ‹_› ‹_› AB ‹_› ‹_› ‹_›),(by exact Ts ‹_› ‹_› AB ‹_› ‹_› ‹_›),(by exact Nc ‹_› AB ‹_›)⟩ (by (simp only []; omega)))
  refine .d<|.ct<|.s<|.g<|.r 1<|.lb ah<|.r 1<|.ns 1 3 [vI (j:Int)] fun bU eW ay bz cw cx=>?_
  have cy:=Ac ay aa.lt
  have cz:=Ac ay ab.lt
  have cA:=Ac ay ac.lt
  have bA:=Ac ay ag.lt
  have cB:=Ac ay ae.lt
  have cC:=Ac ay ah.lt
  have cD:=BW ay E.size
  replace ⟨aa,ab,ac,ag,ae,ah,ao,E,af⟩:=(se [al,r_out_1,r_out_0,ak,aj,ai] bz).g9 aa ab ac ag ae ah ao E af
  have aZ:nin (ge w.heap.size) [al,r_out_1,r_out_0,ak,aj,ai] bU∧bU≠r_out_0:=Du cD (all_cons cC (all_cons cB (all_cons bA (all_cons cA (all_cons cz (all_cons cy all_nil)))))) bA
  refine RG.CX (T:=34) (ty:=34) (y:=(j:Int)) ag cw AA AA rfl aZ AB fun aM bV eX am aE bB=>?_
  have cE:=Bh aE (Nb.symm bi) ae.lt
  have ee:=Bh aE b9 ah.lt
  have cF:=HV aE aq af.size
  replace ⟨aa,ab,ac,ae,ah,ao,E,af⟩:=(sa [al,r_out_1,r_out_0,ak,aj,ai] bB aE).g8 aa ab ac ae ah ao E af
  replace am:=am.rn r_out_0
  have ef:=am.len
  refine .r 1<|.ss 0 (vS aM (n_out_0+1) bV) ah fun eY bC az cG=>?_
  replace ⟨aa,ab,ac,am,ae,ao,E,af⟩:=(so [al,r_out_1,aM,ak,aj,ai] bC).g8 aa ab ac am ae ao E af
  refine .d<|.g<|.r 1<|.lb az<|.r 1<|.ns 1 62 [.slice dy (((CE (BH a (j:Int)) (BH b (j:Int))).1).length) dz] fun bW eZ aA bD cH cI=>?_
  have cJ:=Ac aA aa.lt
  have cK:=Ac aA ab.lt
  have cL:=Ac aA ac.lt
  have cM:=Ac aA am.lt
  have bE:=Ac aA ae.lt
  have cN:=Ac aA az.lt
  have cO:=BW aA E.size
  replace ⟨ac,am,ae,az,ao,E,af⟩:=(se [al,r_out_1,aM,ak,aj,ai] bD).g7 ac am ae az ao E af
  have ba:nin (ge w.heap.size) [al,r_out_1,aM,ak,aj,ai] bW∧bW≠r_out_1:=Du cO (all_cons cN (all_cons bE (all_cons cM (all_cons cL (all_cons cK (all_cons cJ all_nil)))))) bE
  refine RG.CX (T:=46) (ty:=46) (y:=(CE (BH a (j:Int)) (BH b (j:Int))).1) ae cH AA AA ⟨_,_,_,rfl,ao.oi⟩ ba AB fun bF bX e7 aC aF bG=>?_
  have cP:=Bh aF (Nb.symm cE) am.lt
  have eh:=Bh aF ce az.lt
  have cQ:=HV aF ar af.size
  replace ⟨ac,am,az,E,af⟩:=(sa [al,r_out_1,aM,ak,aj,ai] bG aF).g5 ac am az E af
  replace aC:=aC.rn r_out_1
  have ej:=aC.len
  refine .r 1<|.ss 1 (vS bF (n_out_1+1) bX) az fun e8 bH cR cS=>?_
  replace ⟨ac,am,aC,E,af⟩:=(so [al,bF,aM,ak,aj,ai] bH).g5 ac am aC E af
  exact .d<|.ib 1<|.g<|.r 1<|.it ((j:Int)+1)<|.r 1<|.d<|aP (j+1,(au++[(j:Int)]),aM,n_out_0+1,bV,(ax++[(CE (BH a (j:Int)) (BH b (j:Int))).1]),bF,n_out_1+1,bX) _ _ ⟨AA,AA,AA,AA,AA,trivial⟩ ⟨af,am,cF,aC,cQ,cP,cR,AB,AB,AB,AB,(by exact Tp ‹_› ‹_› AB ‹_› ‹_› ‹_›),(by exact Tr ‹_› ‹_› AB ‹_› ‹_› ‹_›),(by exact Nc ‹_› AB ‹_›)⟩ (by (simp only []; omega))
 refine .d<|.cf<|.x 0 rfl<|.s<|.g<|.ln ah<|.sc [vS r_out_0 n_out_0 c_out_0,vS r_out_1 n_out_1 c_out_1] ac fun bY bI cT cU=>?_
 replace ⟨ag,ae,E⟩:=(so [al,r_out_1,r_out_0,ak,aj,ai] bI).g3 ag ae E
 refine .r 1<|.d ?_
 have bJ:=ag.sl cd
 replace ae:=(sd bY [al,r_out_1,r_out_0,ak,aj,ai] r_out_0).g1 ae
 have dA:=ae.sl cg
 replace bJ:=(sd bY [al,r_out_1,ak,aj,ai] r_out_1).g1 bJ
 exact .r2 func99 results99 (.bx cT) (.t (.bool true)) ⟨⟨_,(Bx rfl (AG (by exact (Pd (k:=j) AB ‹_› ‹_› ‹_› ‹_› ‹_›).2))),(VS.of (y:=(⟨au,ax⟩:Prt)) ⟨_,rfl,⟨_,_,_,_,_,_,rfl,bJ.w1,dA.w1⟩⟩ (by exact (Pd (k:=j) AB ‹_› ‹_› ‹_› ‹_› ‹_›).1))⟩,E⟩
end Go.Proofs.YtggnnidleedpaaaGreat
namespace Go.Proofs.YtggnnidleedpaaaGreat
theorem Nd {P:Program}{T ty t:TypeId}{sz:Nat}{w:World}{r i c m c':Nat}{a2:Option Addr}{cs vs:List Value}(hT:FI P T t sz=true) (hB:Box w r t cs) (hsrc:0< m→∃ x,a2=some x∧Has w x vs) (hvs:vs.length=m * sz) (hroom:i+m≤c) (hfit:i * sz+vs.length≤cs.length) (hone:∀ v∈vs,DP v=true) :
 ∃ w',(Builtin.append_ #[T,T] ty #[.slice (some ⟨r,0,none⟩) i c,.slice a2 m c']).run P w=.ok (.slice (some ⟨r,0,none⟩) (i+m) c) w'∧Box w' r t (BB cs (i * sz) vs)∧Chg (one r) w w':=by
 obtain ⟨g1,inf,z,hinf,hsz,_,_,_⟩:=En hT
 by_cases hm:m=0
 ·subst hm
  have:vs=[]:=List.length_eq_zero_iff.1 AB
  subst this
  refine ⟨w,F5 g1 hinf _ _ _ _ _ AB w,?_,Chg.refl _ _⟩
  unfold BB
  simpa using hB
 ·obtain ⟨x,rfl,hx⟩:=hsrc AB
  unfold Box at hB
  have hr:=run_append_room (P:=P) w T ty t inf g1 hinf r i c cs.toArray hB x m c' vs (by rw [hsz]; exact hvs) hx (fun u hu=>Ms (hone u hu)) hroom (by rw [hsz]; simpa using hfit)
  rw [hsz] at hr
  have hset:(w.setRow r (BB cs (i * sz) vs).toArray).heap[r]? = some (.cells (BB cs (i * sz) vs).toArray t (0,0)):=setRow_heap w r cs.toArray _ t _ hB
  refine ⟨_,hr,hset,⟨rfl,rfl,rfl,by simp [World.setRow],fun k _ hn=>setRow_other w r k _ hn⟩⟩
def Tt (P:Program) (T t:TypeId) (sz:Nat):Bool :=
 (match P.underlying T with | some (.slice e)=>Nat.beq e t | _=>false) &&
 (match P.info? t with | some i=>(match i.zero with | some z=>Nat.beq z.cells.size sz&&z.cells.toList.all DP | none=>false) | none=>false)
theorem Nf {P:Program}{T ty t:TypeId}{sz:Nat}{w:World}{r o c:Nat}{cs:List Value}(hT:Tt P T t sz=true) (hB:Box w r t cs) (hfit:o+sz≤cs.length) :
 ∃ vs w',(Builtin.clear_ #[T] ty #[.slice (some ⟨r,o,none⟩) 1 c]).run P w=.ok (.tuple #[]) w'∧vs.length=sz∧Box w' r t (BB cs o vs)∧Chg (one r) w w':=by
 unfold Tt at hT
 simp only [AW] at hT
 obtain ⟨h1,h2⟩:=hT
 split at h1
 ·rename_i e he
  have:=Nat.eq_of_beq_eq_true h1
  subst this
  split at h2
  ·rename_i inf hinf
   split at h2
   ·rename_i z hz
    simp only [AW,List.all_eq_true] at h2
    have hsz:=Nat.eq_of_beq_eq_true h2.1
    have hl:(Builtin.zeroCells z.cells 1).toList.length=sz:=by rw [Array.length_toList,size_zeroCells,hsz]; omega
    have ho:∀ v∈(Builtin.zeroCells z.cells 1).toList,DP v=true:=fun v hv=>by
     unfold Builtin.zeroCells at hv
     simp only [Array.toList_map,List.mem_map,Array.toList_range,List.mem_range] at hv
     obtain ⟨k,hk,rfl⟩:=hv
     have hk2:k % z.cells.size< z.cells.size:=Nat.mod_lt _ AB
     refine h2.2 _ ?_
     rw [getElem!_pos z.cells _ hk2]
     exact Array.getElem_mem_toList hk2
    obtain ⟨w',g1,g2,g3,_⟩:=hB.L5 (P:=P) (Builtin.zeroCells z.cells 1).toList (o:=o) (i:=0) AB ho
    refine ⟨_,w',?_,hl,g2,g3⟩
    have hv:(zeroValue e).run P w=.ok z w:=by simp [zeroValue,typeInfo,hinf,hz,go_sem]
    unfold Builtin.clear_
    simp only [List.getElem?_toArray,List.getElem?_cons_zero]
    rw [AX (run_underlying he w)]
    simp only []
    rw [AX hv,AX g1]
    rfl
   ·cases h2
  ·cases h2
 ·cases h1
section
variable {P:Program} {n:Nat} {K:Env→World→Prop} {ops:Array Oper} {j:Nat} {e:Env} {w:World}
theorem RG.clear {ats:List TypeId}{ty:TypeId}{args:List Value}{v:Value}{w':World}(h:CY n ops j e=some (.clear,ats,ty,args))
 (hr:(Builtin.clear_ ats.toArray ty args.toArray).run P w=.ok v w') (H:RG P n K ops (j+1) (Ai e (Ae ops j).dst v) w'):RG P n K ops j e w:=by
 obtain ⟨hg,h⟩:=CN h
 refine RG.val (v:=v) hg ?_ H
 split at h
 ·rename_i c hop
  split at h
  ·rename_i b hcal
   simp only [Option.some.injEq,Prod.mk.injEq] at h
   obtain ⟨rfl,rfl,rfl,rfl⟩:=h
   have ha:(c.args.toList.map (ev e)).toArray=c.args.map (ev e):=by apply Array.toList_inj.1; simp
   rw [ha,Array.toArray_toList] at hr
   simp only [execOp,hop,resolve,hcal]
   exact AX hr
  ·cases h
 ·cases h
def WK (n:Nat) (ops:Array Oper) (j:Nat) (e:Env):Option (TypeId × Value × Value × Value × Value) :=
 bif CQ n ops j e then
  match (Ae ops j).op with
  | .slice t x (some lo) (some hi) (some mx)=>some (t,ev e x,ev e lo,ev e hi,ev e mx)
  | _=>none
 else none
theorem RG.WL {t:TypeId}{sz:Nat}{a:Option Addr}{len cap:Nat}{k k2 k3:IntKind}{i1 i2 i3:Int}(l h' m:Nat) (h:WK n ops j e=some (t,.slice a len cap,.int k i1,.int k2 i2,.int k3 i3)) (ht:Jc P t sz=true) (e1:i1=(l:Int)) (e2:i2=(h':Int)) (e3:i3=(m:Int)) (hlh:l≤h') (hh:h'≤m) (hm:m≤cap)
 (H:∀ v,RG P n K ops (j+1) (Ai e (Ae ops j).dst v) w):RG P n K ops j e w:=by
 obtain ⟨hg,h⟩:=CN h
 unfold Jc at ht
 split at ht
 ·rename_i el hu
  split at ht
  ·rename_i inf hinf
   have hun:(underlying t).run P w=.ok (.slice el) w:=by simp [underlying,hu,go_sem]
   refine RG.val (v:=.slice (if m=l then a else a.map (·.add (l * inf.size))) (h' - l) (m - l)) hg ?_ (H _)
   split at h
   ·rename_i t' x lo hi mx hop
    simp only [Option.some.injEq,Prod.mk.injEq] at h
    obtain ⟨rfl,hx,hlo,hhi,hmx⟩:=h
    simp only [execOp,hop]
    refine AX ?_
    simp only [Option.map_some,hx,hlo,hhi,hmx]
    unfold Instr.sliceAt
    rw [AX hun]
    simp only []
    unfold Instr.slice
    rw [AX hun]
    simp only []
    have hb:(Instr.sliceBounds true len cap (some (.int k i1)) (some (.int k2 i2)) (some (.int k3 i3))).run P w=.ok (l,h',m) w:=by
     unfold Instr.sliceBounds
     simp only []
     rw [AX (EH e3 hm w),AX (EH e2 hh w),AX (EH e1 hlh w)]
     rfl
    rw [AX hb]
    simp only []
    rw [AX (show (sizeOf el).run P w=.ok inf.size w by simp [sizeOf,typeInfo,hinf,go_sem])]
    rfl
   ·cases h
  ·cases ht
 ·cases ht
end
theorem GA.WM {P:Program}{S:Nat→Prop}{n m:Nat}{L:Env→World→Prop}{ops:Array Oper}{l:List Nat}{e:Env}{w:World}{i:Nat}{t:TypeId}{sz r len cap:Nat}{lo hi:Option Value}(l' h':Nat) (hb:gB n m ops l i=true) (h:DE n ops i e=some (t,.slice (some ⟨r,0,none⟩) len cap,lo,hi)) (ht:Jc P t sz=true) (hlo:bnd lo 0 l') (hhi:bnd hi len h') (hlh:l'≤h') (hh:h'≤cap)
 (H:∀ a2 c2,(0< h' - l'→a2=some ⟨r,l' * sz,none⟩)→GA P S n m L ops (i::l) (Ai e (Ae ops i).dst (.slice a2 (h' - l') c2)) w):GA P S n m L ops l e w:=by
 refine GA.Jd hb (fun w=>?_) (H (if cap=l' then some ⟨r,0,none⟩ else some ⟨r,l' * sz,none⟩) (cap - l') (fun hp=>by rw [if_neg AB]))
 have h1:=Dj h (Gz ht hlo hhi hlh hh w)
 simp only [Option.map_some,add_lit,Nat.zero_add] at h1
 exact h1
theorem Own.VI {α:Type}[Rep α] {w:World}{r:Nat}{t:TypeId}{F:Nat→Prop}{n c:Nat}{xs:List α}(h:Own w r t F n c xs):∃ cs,Box w r t cs∧cs.length=c * Rep.sz α:=by
 obtain ⟨cur,h1,h2⟩:=h.row
 exact ⟨cur.toList,by unfold Box; simpa using h1,by simpa using h2⟩
theorem Own.R5 {α:Type}[Rep α] {w w':World}{r:Nat}{t:TypeId}{F:Nat→Prop}{n c i:Nat}{xs:List α}{cs cs':List Value}(h:Own w r t F n c xs) (hx:Chg (one r) w w') (hB:Box w r t cs) (hB':Box w' r t cs') (hl:cs'.length=c * Rep.sz α) (hi:i< n)
 (hp:∀ p,p< (n - 1) * Rep.sz α→cs'[p]? = if p< i * Rep.sz α then cs[p]? else cs[p+Rep.sz α]?):Own w' r t F (n - 1) c (xs.take i++xs.drop (i+1)):=by
 have hn:=h.len
 have hle:=h.le
 have hcap:=h.cap
 unfold Box at hB hB'
 refine ⟨by rw [List.length_append,List.length_take,List.length_drop]; omega,by omega,hcap,⟨cs'.toArray,hB',by simpa using hl⟩,fun k x hk=>?_⟩
 have hfr:∀ b,b< w.heap.size→F b∧b≠r→(F b∧b≠r)∧w'.heap[b]? = w.heap[b]? := fun b hb hF=>⟨hF,hx.block b hb (fun e=>hF.2 e)⟩
 have hk2:k< (xs.take i++xs.drop (i+1)).length:=(List.getElem?_eq_some_iff.1 hk).1
 rw [List.length_append,List.length_take,List.length_drop] at hk2
 by_cases hki:k< i
 ·rw [List.getElem?_append_left (by rw [List.length_take]; omega),List.getElem?_take,if_pos hki] at hk
  obtain ⟨c1,g1,g2⟩:=h.elem k x hk
  refine ⟨c1,Rep.frame g1 hfr,fun u v hv=>?_⟩
  have h3:=g2 u v hv
  have hu:u< Rep.sz α:=by have:=(List.getElem?_eq_some_iff.1 hv).1; rw [Rep.len g1] at this; exact this
  have hm:k * Rep.sz α+Rep.sz α≤i * Rep.sz α:=by rw [← Nat.succ_mul]; exact Nat.mul_le_mul_right _ hki
  have hm2:i * Rep.sz α≤(n - 1) * Rep.sz α:=Nat.mul_le_mul_right _ AB
  rw [add_lit] at h3 ⊢
  simp only [World.cell?,hB] at h3
  simp only [World.cell?,hB']
  have:=hp (k * Rep.sz α+u) AB
  rw [if_pos AB] at this
  simpa [this] using h3
 ·rw [List.getElem?_append_right (by rw [List.length_take]; omega),List.length_take,Nat.min_eq_left AB,List.getElem?_drop] at hk
  rw [show i+1+(k - i)=k+1 by omega] at hk
  obtain ⟨c1,g1,g2⟩:=h.elem (k+1) x hk
  refine ⟨c1,Rep.frame g1 hfr,fun u v hv=>?_⟩
  have h3:=g2 u v hv
  have hu:u< Rep.sz α:=by have:=(List.getElem?_eq_some_iff.1 hv).1; rw [Rep.len g1] at this; exact this
  have hm:k * Rep.sz α+Rep.sz α≤(n - 1) * Rep.sz α:=by rw [← Nat.succ_mul]; exact Nat.mul_le_mul_right _ AB
  have hm2:i * Rep.sz α≤k * Rep.sz α:=Nat.mul_le_mul_right _ AB
  rw [add_lit] at h3 ⊢
  simp only [World.cell?,hB] at h3
  simp only [World.cell?,hB']
  have:=hp (k * Rep.sz α+u) AB
  rw [if_neg AB] at this
  rw [Nat.succ_mul,show k * Rep.sz α+Rep.sz α+u=k * Rep.sz α+u+Rep.sz α by omega] at h3
  simpa [this] using h3
theorem Lq {cs v1 v2:List Value}{n c i sz:Nat}(hl:cs.length=c * sz) (hi:i< n) (hn:n≤c) (h1:v1=(cs.drop ((i+1) * sz)).take ((n - (i+1)) * sz)) (h2:v2.length=sz) :
 (BB (BB cs (i * sz) v1) ((n - 1) * sz) v2).length=c * sz∧∀ p,p< (n - 1) * sz→(BB (BB cs (i * sz) v1) ((n - 1) * sz) v2)[p]? = if p< i * sz then cs[p]? else cs[p+sz]? := by
 have m1:(i+1) * sz+(n - (i+1)) * sz=n * sz:=by rw [← Nat.add_mul]; congr 1; omega
 have m2:(n - 1) * sz+sz=n * sz:=by rw [← Nat.succ_mul]; congr 1; omega
 have m3:n * sz≤c * sz:=Nat.mul_le_mul_right _ hn
 have m4:(i+1) * sz=i * sz+sz:=Nat.succ_mul _ _
 have l1:v1.length=(n - (i+1)) * sz:=by rw [h1,List.length_take,List.length_drop]; omega
 have l2:(BB cs (i * sz) v1).length=c * sz:=by rw [D3 AB]; exact hl
 refine ⟨by rw [D3 AB]; exact l2,fun p hp=>?_⟩
 unfold BB
 rw [List.append_assoc,List.getElem?_append_left (by rw [List.length_take]; unfold BB at l2; omega),List.getElem?_take,if_pos hp,List.append_assoc]
 by_cases hpi:p< i * sz
 ·rw [if_pos hpi,List.getElem?_append_left (by rw [List.length_take]; omega),List.getElem?_take,if_pos hpi]
 ·rw [if_neg hpi,List.getElem?_append_right (by rw [List.length_take]; omega),List.length_take,Nat.min_eq_left AB,List.getElem?_append_left AB,h1,List.getElem?_take,if_pos AB,List.getElem?_drop]
  congr 1
  omega
variable {w:World} {F:Nat→Prop}
theorem Tu {x:Prt}{cs:List Value}(h:Rep.rep w F x cs):∀ v∈cs,DP v=true:=Rep.flat h
theorem Own.DP {w:World}{r:Nat}{t:TypeId}{F:Nat→Prop}{n c i:Nat}{xs:List Prt}{cs:List Value}(h:Own w r t F n c xs) (hB:Box w r t cs):∀ v,i+(n - i)≤n→v∈(cs.drop (i * 2)).take ((n - i) * 2)→Go.Proofs.YtggnnidleedpaaaGreat.DP v=true:=by
 intro v hin hv
 obtain ⟨k,hk⟩:=List.mem_iff_getElem?.1 hv
 rw [List.getElem?_take] at hk
 split at hk
 ·rename_i hlt
  rw [List.getElem?_drop] at hk
  have hn:=h.len
  have hj:i+k / 2< xs.length:=by omega
  obtain ⟨c1,g1,g2⟩:=h.elem (i+k / 2) xs[i+k / 2] (AU hj)
  have hl:c1.length=2:=Rep.len g1
  have hk2:k % 2< c1.length:=by omega
  have h3:=g2 (k % 2) c1[k % 2] (AU hk2)
  have hz:Rep.sz Prt=2:=rfl
  unfold Box at hB
  rw [add_lit,hz] at h3
  simp only [World.cell?,hB] at h3
  have e:(i+k / 2) * 2+k % 2=i * 2+k:=by omega
  rw [e] at h3
  have h4:cs[i * 2+k]? = some c1[k % 2]:=by simpa using h3
  rw [hk] at h4
  cases h4
  exact Tu g1 _ (List.getElem_mem hk2)
 ·cases hk
theorem QP:∀ (is:List Int) (bs:List (List Row)) (o:Option Int),Bq o is bs=true→is.length=bs.length→∀ b∈bs,Bg b=true:=by
 intro is
 induction is with
 | nil =>
   intro bs o _ hl b hb
   cases bs with
   | nil=>cases hb
   | cons c cs=>simp at hl
 | cons i is ih =>
   intro bs o h hl b hb
   cases bs with
   | nil=>cases hb
   | cons c cs =>
     unfold Bq at h
     simp only [AW] at h
     rcases List.mem_cons.1 hb with rfl | hb
     ·exact h.1.2
     ·exact ih cs (some i) h.2 (by simpa using hl) b hb
theorem Fg {p:Prt}(h:Aw p=true) (id:Int):Bg (partOf p id)=true:=by
 rcases Ik id p.ids p.blocks with h1 | h1
 ·unfold partOf; rw [h1]; rfl
 ·unfold Aw at h
  simp only [AW,decide_eq_true_eq] at h
  exact QP p.ids p.blocks none h.2 h.1 _ h1
theorem On {id t:Int}:∀ (ps:List Prt) (o:List Row),(∀ p∈ps,PrtI p)→Blk o→((look t o).isSome=true∨∃ p∈ps,(look t (partOf p id)).isSome=true)→(look t (ps.foldl (Bs id) o)).isSome=true:=by
 intro ps
 induction ps with
 | nil =>
   rintro o _ _ (h | ⟨p,hp,_⟩)
   ·exact h
   ·cases hp
 | cons p ps ih =>
   intro o hI ho h
   have hp:Blk (partOf p id):=(hI p AD).of id
   refine ih _ (fun q hq=>hI q (by simp [hq])) (ho.merge hp) ?_
   have e:look t (Bs id o p)=(look t (partOf p id)).or (look t o):=Cj t o ho hp
   rcases h with h | ⟨q,hq,h⟩
   ·refine .inl ?_
    rw [e]
    cases look t (partOf p id) with
    | none=>exact h
    | some x=>rfl
   ·rcases List.mem_cons.1 hq with rfl | hq
    ·refine .inl ?_
     rw [e]
     obtain ⟨x,hx⟩:=Option.isSome_iff_exists.1 h
     rw [hx]; rfl
    ·exact .inr ⟨q,hq,h⟩
theorem IN {p:Prt}{n:Int}(h:Bm p n=true):∀ i∈p.ids,i≤n:=by
 unfold Bm at h
 simp only [AW] at h
 obtain ⟨h1,h2⟩:=h
 unfold Aw at h1
 simp only [AW,decide_eq_true_eq] at h1
 have key:∀ (is:List Int) (bs:List (List Row)) (o:Option Int),Bq o is bs=true→(∀ q,o=some q→∀ i∈is,q< i)∧∀ l,is.getLast? = some l→∀ i∈is,i≤l:=by
  intro is
  induction is with
  | nil=>intro bs o _; exact ⟨fun _ _ i hi=>(by cases hi),fun l hl=>(by simp at hl)⟩
  | cons x xs ih =>
    intro bs o hg
    cases bs with
    | nil=>simp [Bq] at hg
    | cons b bs =>
      simp only [Bq,AW] at hg
      obtain ⟨k1,k2⟩:=ih bs (some x) hg.2
      have hx:∀ q,o=some q→q< x:=fun q hq=>by
       have:=hg.1.1.1.2
       rw [hq] at this
       simpa using this
      refine ⟨fun q hq i hi=>?_,fun l hl i hi=>?_⟩
      ·rcases List.mem_cons.1 hi with rfl | hi
       ·exact hx q hq
       ·have:=k1 x rfl i hi; have:=hx q hq; omega
      ·cases hc:xs.getLast? with
       | none =>
         have:xs=[]:=List.getLast?_eq_none_iff.1 hc
         subst this
         simp at hl hi
         omega
       | some l2 =>
         have e:(x::xs).getLast? = some l2:=by rw [List.getLast?_cons,hc]; rfl
         rw [e] at hl
         cases hl
         rcases List.mem_cons.1 hi with rfl | hi
         ·have:=k1 i rfl l (List.mem_of_getLast? hc); omega
         ·exact k2 l hc i hi
 intro i hi
 cases hl:p.ids.getLast? with
 | none=>rw [hl] at h2; cases h2
 | some l =>
   rw [hl] at h2
   have:=(key p.ids p.blocks none h1.2).2 l hl i hi
   have h3:l≤n:=by simpa using h2
   omega
theorem JH {p:Prt}{id:Int}(h:∀ i∈p.ids,i< id):partOf p id=[]:=by
 have key:∀ (is:List Int) (bs:List (List Row)),(∀ i∈is,i< id)→Bc id is bs=[]:=by
  intro is
  induction is with
  | nil=>intro bs _; unfold Bc; rfl
  | cons i is ih =>
    intro bs h
    cases bs with
    | nil=>unfold Bc; rfl
    | cons b bs =>
      unfold Bc
      rw [if_neg (by have:=h i AD; simp; omega)]
      exact ih bs (fun j hj=>h j (by simp [hj]))
 exact key _ _ h
theorem Kq {s:Sto}(h:SD s) (hk:Ad s=true){x y:Prt}(hx:x∈s.parts) (hy:y∈s.parts):CD x y=(BD x y,true):=by
 have hK:=StoK.of h hk
 have ox:=(hK.part x hx).2
 have oy:=(hK.part y hy).2
 unfold CD
 rw [if_pos]
 refine ⟨ox,oy,?_⟩
 unfold okM
 rw [List.all_eq_true]
 intro i hi
 rw [List.mem_range] at hi
 have e1:BH x ((i:Int)+1)=partOf x ((i:Int)+1):=by unfold BH; rw [if_pos ox]
 have e2:BH y ((i:Int)+1)=partOf y ((i:Int)+1):=by unfold BH; rw [if_pos oy]
 rw [e1,e2]
 have b1:=Fg ox ((i:Int)+1)
 have b2:=Fg oy ((i:Int)+1)
 have hl:(Bd (partOf x ((i:Int)+1)) (partOf y ((i:Int)+1))).length≤24:=by
  unfold Ad at hk
  simp only [AW,decide_eq_true_eq,List.all_eq_true,List.mem_range,Eg] at hk
  by_cases hin:i< s.idx.names.length
  ·have bb:=(JW b1).merge (JW b2)
   have hP:Blk (s.parts.foldl (Bs ((i:Int)+1)) []):=Ff h.part Blk.nil
   refine Nat.le_trans (MX bb (b:=rowsOf s ((i:Int)+1)) ?_ (fun t ht=>?_)) (hk.2 i hin)
   ·exact (D5 0 _ s.mem _ hK.row hP).2
   ·refine MZ hK _ t (.inl (On s.parts [] h.part Blk.nil (.inr ?_)))
    rw [Cj t _ (JW b1) (JW b2)] at ht
    cases hc:look t (partOf y ((i:Int)+1)) with
    | some q=>exact ⟨y,hy,by rw [hc]; rfl⟩
    | none=>rw [hc] at ht; exact ⟨x,hx,ht⟩
  ·have g:=fun p hp=>JH (p:=p) (id:=(i:Int)+1) (fun j hj=>by have:=IN (hk.1.1.2 p hp) j hj; omega)
   rw [g x hx,g y hy]
   decide
 unfold CE
 rw [if_pos ⟨b1,b2,by omega⟩]
theorem Kr {s:Sto}{i:Int}(_h:SD s) (hk:Ad s=true) (h1:inR i 0 ((s.parts.length:Int) - 2)=false):BQ s i=(Aa s,false):=by
 rw [Fx hk]; exact KS h1
theorem Ng {s:Sto}{i:Int}{x y:Prt}(h:SD s) (hk:Ad s=true) (h1:inR i 0 ((s.parts.length:Int) - 2)=true) (hx:s.parts[i.toNat]? = some x) (hy:s.parts[(i+1).toNat]? = some y) :
 BQ s i=(⟨(Aa s).idx,[]++(((Aa s).parts.set i.toNat (CD x y).1).take (i.toNat+1)++((Aa s).parts.set i.toNat (CD x y).1).drop (i.toNat+1+1)),(Aa s).mem⟩,true):=by
 have h2:=By h1
 have hx2:=(List.getElem?_eq_some_iff.1 hx).1
 rw [Fx hk]
 have e:=KT (s:=Aa s) (a:=i) (x:=x) (y:=y) h1 hx hy
 rw [e,Kq h hk (AV hx) (AV hy)]
 have ep:(Aa s).parts=s.parts:=rfl
 rw [ep]
 have e2:(i+2).toNat=i.toNat+2:=by omega
 congr 2
 rw [e2,List.nil_append,List.nil_append,List.drop_zero,List.take_length]
 congr 1
 ·rw [List.take_add_one,List.take_set_of_le (Nat.le_refl _),List.getElem?_set_self (by exact hx2)]
  rfl
 ·rw [List.drop_set_of_lt AB]
end Go.Proofs.YtggnnidleedpaaaGreat
namespace Go.Proofs.YtggnnidleedpaaaGreat
set_option maxRecDepth 100000
set_option maxHeartbeats 4000000
variable {w:World} {F:Nat→Prop}
theorem Jt {r n c i:Nat}{xs:List Prt}{a b:Int}(ho:Own w r 48 F n c xs) (ha:a=(i:Int)) (hb:b=(i:Int)+1) (hi:i< n) (hn:n≤1000000):Calls Tryz.prog 100 [.slice (some ⟨r,0,none⟩) n c,.int .i64 a,.int .i64 b].toArray w (Am fun rv w'=>(rv=.slice (some ⟨r,0,none⟩) (n - 1) c∧Own w' r 48 F (n - 1) c (xs.take i++xs.drop (i+1)))∧Chg (one r) w w'):=by
 subst ha hb
 refine goT func100 ?_
 have hle:=ho.le
 obtain ⟨cs,hB,hl⟩:=ho.VI
 have hz:Rep.sz Prt=2:=rfl
 rw [hz] at hl
 refine .s<|.g<|.r 1<|.d<|.s<|.g<|.r 5<|RG.WL (t:=29) (k:=.i64) (k2:=.i64) (k3:=.i64) (a:=some ⟨r,0,none⟩) (len:=n) (cap:=c) (i1:=(i:Int)) (i2:=(i:Int)+1) (i3:=(n:Int)) (sz:=2) i (i+1) n AA AA rfl AB rfl AB AB hle fun v_=>.d<|.s<|.s<|.g<|.r 2<|.eq (i:Int) ((i:Int)+1) (fun h=>absurd (show False by omega) id) fun _=>.d<|.cf<|.sk<|.s<|.g<|.r 3<|.d<|.s<|.gd (one r) 7 fun w1 hx1=>?_
 refine .r [0,1]<|GA.HB (i:=2) (t:=29) (r:=r) (o:=0) (len:=n) (cap:=c) (lo:=none) (hi:=some (vI (i:Int))) (sz:=2) 0 i AA AA AA (.inl ⟨rfl,rfl⟩) (.inr ⟨_,_,rfl,rfl⟩) AB AB AB<|.r [3,4]<|GA.WM (i:=5) (t:=29) (r:=r) (len:=n) (cap:=c) (lo:=some (vI ((i:Int)+1))) (hi:=none) (sz:=2) (i+1) n AA AA AA (.inr ⟨_,_,rfl,by omega⟩) (.inl ⟨rfl,rfl⟩) AB AB fun a2 c2 h2=>?_
 refine .go 6<|GE.append (T:=29) (ty:=29) (args:=[.slice (some ⟨r,0,none⟩) i c,.slice a2 (n - (i+1)) c2]) AA fun w2 hx2=>?_
 have hx12:Ext w w2:=hx1.trans hx2
 have m1:(i+1) * 2+(n - (i+1)) * 2=n * 2:=by omega
 have hB2:=hB.ext hx12
 obtain ⟨w3,hr,hB3,hx3⟩:=Nd (P:=Tryz.prog) (T:=29) (ty:=29) (t:=48) (sz:=2) (i:=i) (c:=c) (m:=n - (i+1)) (c':=c2) (a2:=a2) (vs:=(cs.drop ((i+1) * 2)).take ((n - (i+1)) * 2)) AA hB2
  (fun hp=>⟨_,h2 hp,fun k u hu=>by
   rw [add_lit]
   unfold Box at hB2
   simp only [World.cell?,hB2]
   rw [List.getElem?_take] at hu
   split at hu
   ·rw [List.getElem?_drop] at hu
    simpa using hu
   ·cases hu⟩) (by rw [List.length_take,List.length_drop]; omega) AB (by rw [List.length_take,List.length_drop]; omega) (fun v hv=>ho.DP (i:=i+1) hB v AB hv)
 refine ⟨_,w3,hr,hx3,.d fun w4 hx4=>.r 1<|.d<|.s<|.g<|.r 4<|?_⟩
 have hB4:=hB3.ext hx4
 have hlen:i+(n - (i+1))=n - 1:=by omega
 rw [hlen]
 refine RG.HB (t:=29) (r:=r) (o:=0) (len:=n - 1) (cap:=c) (lo:=some (vI ((n - 1:Nat):Int))) (hi:=some (vI (n:Int))) (sz:=2) (n - 1) n AA AA (.inr ⟨_,_,rfl,rfl⟩) (.inr ⟨_,_,rfl,rfl⟩) AB AB AB ?_
 have h1:n - (n - 1)=1:=by omega
 rw [h1]
 have hl4:(BB cs (i * 2) ((cs.drop ((i+1) * 2)).take ((n - (i+1)) * 2))).length=c * 2:=by rw [D3 (by rw [List.length_take,List.length_drop]; omega)]; exact hl
 obtain ⟨vs,w5,hr5,hv5,hB5,hx5⟩:=Nf (P:=Tryz.prog) (T:=29) (ty:=0) (t:=48) (sz:=2) (o:=0+(n - 1) * 2) (c:=c - (n - 1)) AA hB4 AB
 rw [Nat.zero_add] at hB5
 have hd:=Lq (sz:=2) hl hi hle rfl hv5
 have hx:Chg (one r) w w5:=(((hx12.chg (S:=one r)).trans hx3).trans hx4.chg).trans hx5
 refine RG.clear (ats:=[29]) (ty:=0) (args:=[.slice (some ⟨r,0+(n - 1) * 2,none⟩) 1 (c - (n - 1))]) AA hr5<|.d<|.s<|.g<|.r 2<|.d<|.rt func100 results100 (.slice (some ⟨r,0,none⟩) (n - 1) c) ⟨⟨rfl,Own.R5 ho hx hB hB5 (by rw [hz]; exact hd.1) hi (by rw [hz]; exact hd.2)⟩,hx⟩
end Go.Proofs.YtggnnidleedpaaaGreat
namespace Go.Proofs.YtggnnidleedpaaaGreat
set_option maxRecDepth 100000
set_option maxHeartbeats 4000000
variable {w:World} {F:Nat→Prop} {a1 a2 a3 a4:Option Addr} {n1 c1 n2 c2 n3 c3 n4 c4:Nat}
set_option maxRecDepth 100000 in
set_option maxHeartbeats 4000000 in
theorem IP (s:Sto) (at_:Int) (h1:RepS w F a1 n1 c1 s.idx.names) (h2:RepS w F a2 n2 c2 s.idx.AY) (h3:RepS w F a3 n3 c3 s.parts) (h4:RepS w F a4 n4 c4 s.mem) (p0:SD s):Calls Tryz.prog 58 [.agg #[.slice a1 n1 c1,.slice a2 n2 c2,.slice a3 n3 c3,.slice a4 n4 c4],.int .i64 at_].toArray w (Am fun rv w'=>(∃ v0,rv=.tuple #[v0,.bool ((BQ s at_).2)]∧VS (fo F w.heap.size) w' ((BQ s at_).1:Sto) v0)∧Ext w w'):=by
 refine goT func58 ?_
 obtain ⟨rfl,dW,h1⟩:=h1.tp
 obtain ⟨rfl,dX,h2⟩:=h2.tp
 obtain ⟨rfl,dY,h3⟩:=h3.tp
 obtain ⟨rfl,dZ,h4⟩:=h4.tp
 refine .s<|.g<|.np 32 [.slice a1 s.idx.names.length c1,.slice a2 s.idx.AY.length c2,.slice a3 s.parts.length c3,.slice a4 s.mem.length c4] fun ai eX bJ ba ab cR=>?_
 replace ⟨h1,h2,h3,h4⟩:=(sn [] ba bJ).g4 h1 h2 h3 h4
 have E:=ba
 refine .np 32 [AH,AH,AH,AH] fun ak dw aU bK ae cS=>?_
 have d0:=Ac aU ab.lt
 have d3:=E.cn aU
 replace ⟨h1,h2,h3,h4,ab,E⟩:=(sn [ai] bK aU).g6 h1 h2 h3 h4 ab E
 refine .r 1<|.d<|.s<|.s<|.g<|.ln ab<|.cl (DK s h1.ta h2.ta h3.ta h4.ta p0 (w:=dw) (F:=all)) ?_
 rintro eY b0 ⟨rfl,bL⟩
 replace ⟨h1,h2,h3,h4,ab,ae,E⟩:=(se [ak,ai] bL).g7 h1 h2 h3 h4 ab ae E
 cases d4:(Ad s)
 ·refine .r 1<|.d<|.ct<|.s<|.g<|.r 1<|.sc [AH,AH,AH,AH] ae fun eZ bM cT cU=>?_
  replace ⟨h1,h2,h3,h4,ab,E⟩:=(so [ak,ai] bM).g6 h1 h2 h3 h4 ab E
  exact .r 1<|.d<|.r2 func58 results58 (.bx cT) (.t (.bool false)) ⟨⟨_,(Bx rfl (AG (by rw [JG ‹_›]))),(VS.of (y:=(⟨(⟨([]:List (List Tag)),([]:List Pst)⟩:Idx),([]:List Prt),([]:List Smp)⟩:Sto)) ⟨_,rfl,⟨_,_,_,_,_,_,_,_,_,_,_,_,rfl,(RepS.BO _ _ none 0 AE),(RepS.BO _ _ none 0 AE),(RepS.BO _ _ none 0 AE),(RepS.BO _ _ none 0 AE)⟩⟩ (by rw [JG ‹_›]))⟩,E⟩
 refine .r 1<|.d<|.cf<|.sk<|.s<|.g<|.ln ab<|.cl (CW s h1.ta h2.ta h3.ta h4.ta p0.nm p0.nd p0.sz (w:=b0) (F:=all)) ?_
 rintro e7 bd ⟨⟨b6,e8,b7,b8,fa,b9,al,aY,cV,aj,cd,ce,rfl,af,ag,ah,aE,aa,aK,d5⟩,bg⟩
 have aL:=al2 ae.lt ab.lt
 have aV:Gb w.heap.size b0.heap.size:=E.size
 have bN:=CF aE ab.lt
 have d6:=CF aE ae.lt
 have bO:=FR aE E.size
 have d7:Cov nil w al:=KK aE E.size
 have bP:=CF aK ab.lt
 have d8:=CF aK ae.lt
 have bQ:=FR aK E.size
 have bR:Mv [ak,ai] [al,aj,ak,ai] b0 bd:=Mv.cons (Mv.cons (Mv.ext bg) aK) aE
 replace ⟨h3,ab,ae,E⟩:=(sp bR bg).g4 h3 ab ae E
 replace af:RepS bd (nin (ge w.heap.size) [al,aj,ak,ai]) _ _ _ _:=RepS.Cl (s0:=w.heap.size) (M:=[ak,ai]) af aL aV
 replace af:=af.base (G':=fo F w.heap.size) (fun _ _ h=>.inr h)
 have d9:=af.max
 replace ag:RepS bd (nin (ge w.heap.size) [al,aj,ak,ai]) _ _ _ _:=RepS.Cl (s0:=w.heap.size) (M:=[ak,ai]) ag aL aV
 replace ag:=ag.base (G':=fo F w.heap.size) (fun _ _ h=>.inr h)
 have ec:=ag.max
 replace ah:Own bd al 48 (nin (ge w.heap.size) [al,aj,ak,ai]) _ _ _:=Own.Cl (s0:=w.heap.size) (M:=[ak,ai]) ah aL aV
 replace ah:=ah.base (G':=fo F w.heap.size) (fun _ _ h=>.inr h)
 have ee:=ah.max
 have ef:=ah.len
 replace aa:Own bd aj 85 (nin (ge w.heap.size) [al,aj,ak,ai]) _ _ _:=Own.Cl (s0:=w.heap.size) (M:=[ak,ai]) aa aL aV
 replace aa:=aa.base (G':=fo F w.heap.size) (fun _ _ h=>.inr h)
 have cW:=af.len
 subst cW
 have cX:=ag.len
 subst cX
 refine .np 32 [AH,AH,AH,AH] fun am fb ay bS cY cZ=>?_
 have ej:=Ac ay ab.lt
 have ek:=Ac ay ae.lt
 have c7:=Ac ay ah.lt
 have cg:=Ac ay aa.lt
 have dx:=E.cn ay
 replace ⟨h3,ab,ae,af,ag,ah,aa,E⟩:=(sn [al,aj,ak,ai] bS ay).g8 h3 ab ae af ag ah aa E
 refine .sc [.slice b6 (((((Aa s)).idx).names).length) b7,.slice b8 (((((Aa s)).idx).AY).length) b9,vS al aY cV,vS aj cd ce] cY fun c8 bh ac ci=>?_
 replace ⟨h3,ab,ae,af,ag,ah,aa,E⟩:=(so [am,al,aj,ak,ai] bh).g8 h3 ab ae af ag ah aa E
 refine .d<|.s<|.s<|.g<|.r 2<|.lb ab<|.r 1<|RG.int ((s.parts.length:Int) - 2) AA (by have:=p0.np; omega)<|.cl (Br at_ 0 ((s.parts.length:Int) - 2) (w:=c8) (F:=all)) ?_
 rintro en aN ⟨rfl,bi⟩
 replace ⟨h3,ab,ae,af,ag,ah,aa,ac,E⟩:=(se [am,al,aj,ak,ai] bi).g9 h3 ab ae af ag ah aa ac E
 cases bj:(inR at_ 0 ((s.parts.length:Int) - 2))
 ·refine .r 1<|.d<|.ct<|.s<|.g<|.ln ac<|.sc [.slice b6 (((((Aa s)).idx).names).length) b7,.slice b8 (((((Aa s)).idx).AY).length) b9,vS al aY cV,vS aj cd ce] ae fun bT bk cj ck=>?_
  replace ⟨h3,ab,af,ag,ah,aa,ac,E⟩:=(so [am,al,aj,ak,ai] bk).g8 h3 ab af ag ah aa ac E
  refine .r 1<|.d ?_
  have bm:=ah.sl (.inr bO)
  replace ⟨h3,af,ag,aa⟩:=(sd bT [am,al,aj,ak,ai] al).g4 h3 af ag aa
  have c9:=aa.sl (.inr bQ)
  replace ⟨h3,af,ag,bm⟩:=(sd bT [am,aj,ak,ai] aj).g4 h3 af ag bm
  exact .r2 func58 results58 (.bx cj) (.t (.bool false)) ⟨⟨_,(Bx rfl (AG (by rw [Kr p0 ‹_› ‹_›]))),(VS.of (y:=(⟨(⟨(((Aa s)).idx).names,(((Aa s)).idx).AY⟩:Idx),((Aa s)).parts,((Aa s)).mem⟩:Sto)) ⟨_,rfl,⟨_,_,_,_,_,_,_,_,_,_,_,_,rfl,af.w1,ag.w1,bm.w1,c9.w1⟩⟩ (by rw [Kr p0 ‹_› ‹_›]))⟩,E⟩
 have dz:=By bj
 refine .r 1<|.d<|.cf<|.sk<|.s ?_
 replace h3:=h3.Cp
 replace af:=af.Cp
 replace ag:=ag.Cp
 have bn:Gb (ai+1) aN.heap.size:=ab.lt
 have cm:Cov (mtb [al,aj] aN.heap.size) aN al:=⟨.inl (.inl AI)⟩
 have co:Gb (am+1) aN.heap.size:=ac.lt
 refine .gd (mtb [al,aj] aN.heap.size) 20 fun ey bo=>?_
 replace ⟨h3,ab,ae,af,ag,ah,aa,ac,E⟩:=(se [am,al,aj,ak,ai] bo).g9 h3 ab ae af ag ah aa ac E
 refine .r [0]<|.lb 1 ac (C1 (all_cons c7 (all_cons cg all_nil)) co)<|.r [2,3]<|.lb 4 ab (C1 (all_cons (Nb.symm bN) (all_cons (Nb.symm bP) all_nil)) bn)<|.r [5] ?_
 have bq:at_.toNat< s.parts.length:=(by have q2:=By ‹_›; have q3:(Aa s).parts.length=s.parts.length:=rfl; omega)
 refine GA.idx (i:=6) (at_.toNat) (len:=s.parts.length) (z:=at_) (sz:=2) AA (by have q2:=By ‹_›; omega) bq (h3.addr (Nat.zero_lt_of_lt bq)) ?_
 obtain ⟨az,aH⟩:∃ y,s.parts[at_.toNat]? = some y:=⟨_,AU (by have q2:=By ‹_›; omega)⟩
 have da:=AV aH
 obtain ⟨_,⟨ez,eA,eB,eC,eD,eE,rfl,br,bt⟩,cp⟩:=h3.elem (at_.toNat) az aH
 have cq:=br.len
 subst cq
 have cr:=bt.len
 subst cr
 refine .lg 7 0 cp (h3.nS (KJ aH) (all_cons AJ (all_cons AK all_nil)))<|.r [8]<|.lb 9 ab (C1 (all_cons (Nb.symm bN) (all_cons (Nb.symm bP) all_nil)) bn)<|.r [10]<|GA.int (i:=11) (at_+1) AA (by have:=p0.np; omega) ?_
 have bu:(at_+1).toNat< s.parts.length:=(by have q2:=By ‹_›; have q3:(Aa s).parts.length=s.parts.length:=rfl; omega)
 refine GA.idx (i:=12) ((at_+1).toNat) (len:=s.parts.length) (z:=at_+1) (sz:=2) AA (by have q2:=By ‹_›; omega) bu (h3.addr (Nat.zero_lt_of_lt bu)) ?_
 obtain ⟨aA,aI⟩:∃ y,s.parts[(at_+1).toNat]? = some y:=⟨_,AU (by have q2:=By ‹_›; omega)⟩
 have db:=AV aI
 obtain ⟨_,⟨eF,eG,eH,eI,eJ,eK,rfl,bv,bw⟩,cu⟩:=h3.elem ((at_+1).toNat) aA aI
 have cw:=bv.len
 subst cw
 have cx:=bw.len
 subst cx
 refine .lg 13 0 cu (h3.nS (KJ aI) (all_cons AJ (all_cons AK all_nil)))<|.go 14<|.cl (fun bz ax=>EM az aA (br.ta.ext ax) (bt.ta.ext ax) (bv.ta.ext ax) (bw.ta.ext ax) (by exact (p0.part _ ‹_›).sz) (by exact (p0.part _ ‹_›).sz) (w:=bz) (F:=all)) ?_
 intro bz ax
 replace ⟨ab,ae,af,ag,ah,aa,ac,E⟩:=(se [am,al,aj,ak,ai] ax).g8 ab ae af ag ah aa ac E
 rintro eL de ⟨⟨eM,rfl,⟨_,rfl,⟨df,eN,dh,dj,eO,dm,rfl,aB,aC⟩⟩⟩,aP⟩
 have aQ:=al5 ac.lt ah.lt aa.lt ae.lt ab.lt
 have bA:Gb w.heap.size bz.heap.size:=E.size
 have hkeep_:=aP
 replace ⟨ab,ae,af,ag,ah,aa,ac,E⟩:=(se [am,al,aj,ak,ai] aP).g8 ab ae af ag ah aa ac E
 refine ⟨Ext.chg hkeep_,?_⟩
 have aB:=aB.fr aQ bA
 replace aB:=aB.base (G':=fo F w.heap.size) (fun _ _ h=>.inr h)
 have dG:=aB.max
 have aC:=aC.fr aQ bA
 replace aC:=aC.base (G':=fo F w.heap.size) (fun _ _ h=>.inr h)
 have dH:=aC.max
 have cy:=aB.len
 subst cy
 have cz:=aC.len
 subst cz
 refine .r [15,16,17] ?_
 have cA:at_.toNat< aY:=(by have q2:=By ‹_›; have q3:(Aa s).parts.length=s.parts.length:=rfl; omega)
 refine GA.idx (i:=18) (b:=al) (o:=0) (at_.toNat) (len:=aY) (z:=at_) (sz:=2) AA (by have q2:=By ‹_›; omega) cA rfl<|.go 19 ?_
 obtain ⟨aO,aJ⟩:∃ y,(((Aa s)).parts)[at_.toNat]? = some y:=⟨_,AU (by have q2:=By ‹_›; omega)⟩
 obtain ⟨_,⟨bU,eP,bV,bW,eQ,bX,rfl,aW,aX⟩,aR⟩:=ah.elem (at_.toNat) aO aJ
 replace aW:=aW.Bn (fun _ _ h=>h.1)
 replace aX:=aX.Bn (fun _ _ h=>h.1)
 have cB:=aW.len
 subst cB
 have cC:=aX.len
 subst cC
 replace aR:Has de ⟨al,0+(at_.toNat) * Rep.sz Prt,none⟩ [.slice bU aO.ids.length bV,.slice bW aO.blocks.length bX]:=by rw [Nat.zero_add]; exact aR
 refine GE.EG (t':=48) (q:=(at_.toNat)) (k:=0) (v:=.agg #[.slice df ((CD az aA).1.ids.length) dh,.slice dj ((CD az aA).1.blocks.length) dm]) (cs:=[.slice bU aO.ids.length bV,.slice bW aO.blocks.length bX]) ((CD az aA).1) ah aJ aR ⟨_,_,_,_,_,_,rfl,aB.oi,aC.oi⟩ AA AA AA fun eR bB=>?_
 replace ⟨ab,ae,af,ag,aa,ac,E⟩:=(se [am,al,aj,ak,ai] bB).g7 ab ae af ag aa ac E
 intro eS au aS cD
 have hkeep_:=Chg.toS aS (Cov.toS cm)
 replace ⟨ab,ae,af,ag,aa,ac,E⟩:=(so [am,al,aj,ak,ai] aS).g7 ab ae af ag aa ac E
 refine ⟨hkeep_,?_⟩
 refine .d fun eT bC=>?_
 replace ⟨ab,ae,af,ag,au,aa,ac,E⟩:=(se [am,al,aj,ak,ai] bC).g8 ab ae af ag au aa ac E
 replace af:=af.BP
 replace ag:=ag.BP
 refine .d<|.s<|.g<|.ns 0 48 [] fun aF dq ao bD cE cF=>?_
 have cG:=Ac ao ab.lt
 have cH:=Ac ao ae.lt
 have dL:=Ac ao au.lt
 have cI:=Ac ao aa.lt
 have cJ:=Ac ao ac.lt
 have cK:=BW ao E.size
 have dM:=E.cn ao
 replace ⟨ab,ae,af,ag,au,aa,ac,E⟩:=(sn [am,al,aj,ak,ai] bD ao).g8 ab ae af ag au aa ac E
 have aD:Own (α:=Prt) dq aF 48 (nin (fo F w.heap.size) [aF,am,al,aj,ak,ai]) 0 0 []:=Own.BO cE
 refine .r 1<|.lb ac<|.r 1<|RG.int (at_+1) AA (by have:=p0.np; omega)<|.r 1<|RG.int (at_+2) AA (by have:=p0.np; omega) ?_
 have cL:=au.len; rw [List.length_set] at cL
 refine .cl (Jt (i:=(at_.toNat+1)) (a:=at_+1) (b:=at_+2) au (by have q2:=By ‹_›; omega) (by have q2:=By ‹_›; omega) (by have q2:=By ‹_›; have q3:(Aa s).parts.length=s.parts.length:=rfl; omega) (by have q2:=By ‹_›; have q3:(Aa s).parts.length=s.parts.length:=rfl; have q4:=p0.np; omega)) ?_
 rintro eU dt ⟨⟨rfl,aT⟩,bE⟩
 replace ⟨ab,ae,af,ag,aa,ac,aD,E⟩:=(so [aF,am,al,aj,ak,ai] bE).g8 ab ae af ag aa ac aD E
 have dO:=aT.len; have dP:=aT.max
 have du:=aT.sl (.inr bO)
 replace ⟨af,ag,aa,aD⟩:=(sd dt [aF,am,al,aj,ak,ai] al).g4 af ag aa aD
 refine RG.O6 (T:=29) (ty:=29) aD du AA AA (fun b _ h=>OC AI h) (by have q1:=p0.np; have q2:(Aa s).parts.length=s.parts.length:=rfl; omega) fun aG bY eV aq ar bF=>?_
 have dQ:=Bh ar cG ab.lt
 have dR:=Bh ar cH ae.lt
 have dS:=Bh ar cI aa.lt
 have dT:=Bh ar cJ ac.lt
 have cM:=ES ar cK E.size
 replace ⟨ae,af,ag,aa,ac,E⟩:=(sa [aF,am,aj,ak,ai] bF ar).g6 ae af ag aa ac E
 replace aq:=aq.rn aF
 refine .r 1<|.ss 2 (vS aG (0+(aY - 1)) bY) ac fun eW bG cN cO=>?_
 replace ⟨ae,af,ag,aa,aq,E⟩:=(so [aG,am,aj,ak,ai] bG).g6 ae af ag aa aq E
 refine .d<|.s<|.g<|.ln cN<|.sc [.slice b6 (((((Aa s)).idx).names).length) b7,.slice b8 (((((Aa s)).idx).AY).length) b9,vS aG (0+(aY - 1)) bY,vS aj cd ce] ae fun bZ bH cP cQ=>?_
 replace ⟨af,ag,aa,aq,E⟩:=(so [aG,am,aj,ak,ai] bH).g5 af ag aa aq E
 refine .r 1<|.d ?_
 have bI:=aq.sl (.inr cM)
 replace ⟨af,ag,aa⟩:=(sd bZ [aG,am,aj,ak,ai] aG).g3 af ag aa
 have dv:=aa.sl (.inr bQ)
 replace ⟨af,ag,bI⟩:=(sd bZ [am,aj,ak,ai] aj).g3 af ag bI
 exact .r2 func58 results58 (.bx cP) (.t (.bool true)) ⟨⟨_,(Bx rfl (AG (by exact (congrArg Prod.snd (Ng p0 ‹_› ‹_› ‹_› ‹_›)).symm))),(VS.of (y:=(⟨(⟨(((Aa s)).idx).names,(((Aa s)).idx).AY⟩:Idx),([]++(((((Aa s)).parts).set (at_.toNat) ((CD az aA).1)).take (at_.toNat+1)++((((Aa s)).parts).set (at_.toNat) ((CD az aA).1)).drop ((at_.toNat+1)+1))),((Aa s)).mem⟩:Sto)) ⟨_,rfl,⟨_,_,_,_,_,_,_,_,_,_,_,_,rfl,af.w1,ag.w1,bI.w1,dv.w1⟩⟩ (by exact (congrArg Prod.fst (Ng p0 ‹_› ‹_› ‹_› ‹_›)).symm))⟩,E⟩
end Go.Proofs.YtggnnidleedpaaaGreat
namespace Go.Proofs.YtggnnidleedpaaaGreat
theorem Nh:DR []=true:=by decide
theorem Lr {s:Sto}(h:SD s) (hk:Ad s=true){id:Int}{p:List Tag→Bool}(hid:id∈BJ p 0 s.idx.names) (lo hi:Int):GL (Cw s id) lo hi=LF (rowsOf s id) lo hi:=by
 have:=D6 hid
 rw [NU hk this.1 this.2,JE h hk this.1 this.2]
def C7 (s:Sto) (f:List Cnd) (lo hi:Int) (i k:Nat):Prop:=((BJ (Bz f) 0 s.idx.names).drop i).flatMap (Di s lo hi)=(Bj s f lo hi).drop k
theorem C7.start {s:Sto}{f:List Cnd}{lo hi:Int}(h:SD s) (hk:Ad s=true):C7 s f lo hi 0 0:=by
 unfold C7
 rw [Ry h hk]
 rfl
theorem C7.skip {s:Sto}{f:List Cnd}{lo hi:Int}{i k:Nat}{id:Int}(h:C7 s f lo hi i k) (hs:SD s) (hk:Ad s=true) (hd:(BJ (Bz f) 0 s.idx.names).drop i=id::(BJ (Bz f) 0 s.idx.names).drop (i+1)) (hl:((GL (Cw s id) lo hi).length:Int)=0):C7 s f lo hi (i+1) k:=by
 have hm:id∈BJ (Bz f) 0 s.idx.names:=List.mem_of_mem_drop (by rw [hd]; simp)
 rw [Lr hs hk hm] at hl
 unfold C7 at h ⊢
 rw [hd,List.flatMap_cons] at h
 have e:Di s lo hi id=[]:=by unfold Di; rw [if_neg AB]
 rw [e,List.nil_append] at h
 exact h
theorem C7.hit {s:Sto}{f:List Cnd}{lo hi:Int}{i k:Nat}{id:Int}(h:C7 s f lo hi i k) (hs:SD s) (hk:Ad s=true) (hd:(BJ (Bz f) 0 s.idx.names).drop i=id::(BJ (Bz f) 0 s.idx.names).drop (i+1)) (hl:((GL (Cw s id) lo hi).length:Int)≠0){n:List Tag}(hn:s.idx.names[(id - 1).toNat]? = some n) :
 (Bj s f lo hi)[k]? = some ⟨GG n,GL (Cw s id) lo hi⟩∧C7 s f lo hi (i+1) (k+1):=by
 have hm:id∈BJ (Bz f) 0 s.idx.names:=List.mem_of_mem_drop (by rw [hd]; simp)
 rw [Lr hs hk hm] at hl ⊢
 unfold C7 at h ⊢
 rw [hd,List.flatMap_cons] at h
 have e:Di s lo hi id=[⟨GG n,LF (rowsOf s id) lo hi⟩]:=by
  unfold Di
  rw [if_pos AB,List.getD_eq_getElem?_getD,hn,Kp (hs.nm.ok n (AV hn))]
  rfl
 rw [e,List.cons_append,List.nil_append] at h
 constructor
 ·have:=congrArg (fun l=>l[0]?) h
  simp only [List.getElem?_cons_zero,List.getElem?_drop,Nat.add_zero] at this
  exact this.symm
 ·have:=congrArg List.tail h
  rw [List.tail_cons,List.tail_drop] at this
  exact this
theorem C7.fin {s:Sto}{f:List Cnd}{lo hi:Int}{i k:Nat}(h:C7 s f lo hi i k) (hi2:(BJ (Bz f) 0 s.idx.names).length≤i):(Bj s f lo hi).length≤k:=by
 unfold C7 at h
 rw [Ab hi2] at h
 have:=congrArg List.length h
 simp only [List.flatMap_nil,List.length_nil,List.length_drop] at this
 omega
theorem C7.no1 {s:Sto}{f:List Cnd}{lo hi:Int}{i k:Nat}{id:Int}(h:C7 s f lo hi i k) (hs:SD s) (hk:Ad s=true) (hd:(BJ (Bz f) 0 s.idx.names).drop i=id::(BJ (Bz f) 0 s.idx.names).drop (i+1)) (hl:((GL (Cw s id) lo hi).length:Int)≠0) (hb:(k:Int)≥((Bj s f lo hi).length:Int)):False:=by
 have hm:id∈BJ (Bz f) 0 s.idx.names:=List.mem_of_mem_drop (by rw [hd]; simp)
 have h2:=D6 hm
 obtain ⟨n,hn⟩:∃ n,s.idx.names[(id - 1).toNat]? = some n:=⟨_,AU AB⟩
 have h3:=(List.getElem?_eq_some_iff.1 (h.hit hs hk hd hl hn).1).1
 omega
theorem C7.no2 {s:Sto}{f:List Cnd}{lo hi:Int}{i k:Nat}{id:Int}(h:C7 s f lo hi i k) (hs:SD s) (hk:Ad s=true) (hd:(BJ (Bz f) 0 s.idx.names).drop i=id::(BJ (Bz f) 0 s.idx.names).drop (i+1)) (hl:((GL (Cw s id) lo hi).length:Int)≠0){n:List Tag}(hn:s.idx.names[(id - 1).toNat]? = some n){b:Hit}(hb:(Bj s f lo hi)[k]? = some b)
 (hf:(b.name==GG n)=false∨(b.name != GG n)=true∨(b.rows==GL (Cw s id) lo hi)=false):False:=by
 have h3:=(h.hit hs hk hd hl hn).1
 rw [hb] at h3
 simp only [Option.some.injEq] at h3
 subst h3
 rcases hf with hf | hf | hf <;> simp at hf
end Go.Proofs.YtggnnidleedpaaaGreat
namespace Go.Proofs.YtggnnidleedpaaaGreat
theorem QQ {s:Sto}(h:SD s) (h1:(Bl s).2=true):(Bl s).1=Cz s∧Ad s=true∧s.mem≠[]∧s.parts.length< 6:=by
 cases hk:Ad s with
 | false=>rw [JD hk] at h1; cases h1
 | true =>
   by_cases hc:(s.mem.length:Int)=0∨(s.parts.length:Int)=6
   ·rw [Gn h hk hc] at h1; cases h1
   ·have h6:=Ma hk
    rw [IJ h hk AB AB]
    refine ⟨?_,rfl,fun e=>?_,by omega⟩
    ·show (⟨(Aa s).idx,(Aa s).parts++[Aj s.mem],[]⟩:Sto)=Cz s
     rw [h.copy]
     rfl
    ·rw [e] at hc; simp at hc
theorem Ks {s x:Sto}{f:List Cnd}(hi:x.idx=s.idx) (hk:Ad s=Ad x) (hr:Ad s=true→∀ id:Int,1≤id→id≤s.idx.names.length→rowsOf x id=rowsOf s id) (lo hi2:Int):Bj x f lo hi2=Bj s f lo hi2:=by
 unfold Bj
 rw [← hk]
 cases hs:Ad s&&DR f with
 | false=>rfl
 | true =>
   simp only [AW] at hs
   rw [if_pos rfl,if_pos rfl]
   unfold NT
   rw [hi]
   have key:∀ (l:List Int),(∀ i∈l,1≤i∧i≤s.idx.names.length)→l.flatMap (Di x lo hi2)=l.flatMap (Di s lo hi2):=by
    intro l
    induction l with
    | nil=>intro _; rfl
    | cons i is ih =>
      intro h
      rw [List.flatMap_cons,List.flatMap_cons,ih (fun j hj=>h j (by simp [hj]))]
      have h1:=h i AD
      unfold Di
      rw [hr hs.1 i h1.1 h1.2,hi]
   exact key _ (fun i hi=>D6 hi)
end Go.Proofs.YtggnnidleedpaaaGreat
namespace Go.Proofs.YtggnnidleedpaaaGreat
theorem Ls (a b:Prt){id:Int}(h1:1≤id) (h2:id≤6):partOf (BD a b) id=Bd (partOf a id) (partOf b id):=by
 unfold BD
 rw [NQ _ h1,List.getD_eq_getElem?_getD]
 unfold BU
 rw [List.getElem?_map,List.getElem?_range AB]
 simp only [Option.map_some,Option.getD_some]
 rw [show (((id - 1).toNat:Nat):Int)+1=id by omega]
def CP (s:Sto) (k:Nat):Sto:=⟨s.idx,Fv s.parts k,s.mem⟩
theorem IQ {s:Sto}{i:Int}(h:SD s) (h1:(BQ s i).2=true):Ad s=true∧0≤i∧i+2≤s.parts.length∧(BQ s i).1=CP s i.toNat:=by
 cases hk:Ad s with
 | false=>rw [JG hk] at h1; cases h1
 | true =>
   cases hr:inR i 0 ((s.parts.length:Int) - 2) with
   | false=>rw [Kr h hk hr] at h1; cases h1
   | true =>
     have h2:=By hr
     refine ⟨rfl,h2.1,by omega,?_⟩
     rw [Fx hk,h.copy]
     unfold BG
     rw [if_pos hr]
     rfl
theorem Es {s:Sto}{k:Nat}(hk:k+2≤s.parts.length):∃ x y,s.parts[k]? = some x∧s.parts[k+1]? = some y∧(CP s k).parts=s.parts.take k++[BD x y]++s.parts.drop (k+2):=by
 refine ⟨_,_,AU AB,AU AB,?_⟩
 exact G1 (AU AB) (AU AB)
theorem FF {s:Sto}(h:StoK s){k:Nat}(hk:k+2≤s.parts.length){id:Int}(h1:1≤id) (h2:id≤6):(CP s k).parts.foldl (Bs id) []=s.parts.foldl (Bs id) []∧rowsOf (CP s k) id=rowsOf s id:=by
 obtain ⟨x,y,hx,hy,e⟩:=Es hk
 have key:(CP s k).parts.foldl (Bs id) []=s.parts.foldl (Bs id) []:=by
  have hs:s.parts=s.parts.take k++[x,y]++s.parts.drop (k+2):=by
   have e1:=List.take_append_drop k s.parts
   rw [Bf hx,Bf hy] at e1
   rw [List.append_assoc]
   exact e1.symm
  rw [e]
  conv=>rhs; rw [hs]
  simp only [List.foldl_append,List.foldl_cons,List.foldl_nil]
  congr 1
  have px:=h.sd.part x (AV hx)
  have py:=h.sd.part y (AV hy)
  have ho:Blk ((s.parts.take k).foldl (Bs id) []):=Ff (fun p hp=>h.sd.part p (List.mem_of_mem_take hp)) Blk.nil
  unfold Bs
  rw [Ls x y h1 h2]
  exact (MY ho (px.of id) (py.of id)).symm
 refine ⟨key,?_⟩
 unfold rowsOf
 rw [key]
 rfl
theorem Oo {p:Prt}{n:Int}(h:Bm p n=true):∃ id:Int,1≤id∧id≤6∧id≤n∧0< (partOf p id).length:=by
 have hle:=IN h
 unfold Bm at h
 simp only [AW] at h
 obtain ⟨h1,h2⟩:=h
 unfold Aw at h1
 simp only [AW,decide_eq_true_eq] at h1
 obtain ⟨h3,h4⟩:=h1
 unfold partOf
 cases hi:p.ids with
 | nil=>rw [hi] at h2; simp at h2
 | cons i is =>
   cases hb:p.blocks with
   | nil=>rw [hi,hb] at h3; simp at h3
   | cons b bs =>
     rw [hi,hb] at h4
     unfold Bq at h4
     simp only [AW,decide_eq_true_eq] at h4
     have h5:=By h4.1.1.1.1
     refine ⟨i,h5.1,h5.2,hle i (by rw [hi]; simp),?_⟩
     unfold Bc
     rw [if_pos AD]
     exact h4.1.1.2
theorem Ni {s:Sto}(h:SD s) (hk:Ad s=true){x y:Prt}(hx:x∈s.parts) (hy:y∈s.parts){id:Int}(h1:1≤id) (h2:id≤6):Blk (Bd (partOf x id) (partOf y id))∧(Bd (partOf x id) (partOf y id)).length≤24:=by
 have e:=Kq h hk hx hy
 unfold CD at e
 split at e
 ·rename_i hc
  obtain ⟨ox,oy,hm⟩:=hc
  unfold okM at hm
  rw [List.all_eq_true] at hm
  have:=hm (id - 1).toNat (by rw [List.mem_range]; omega)
  rw [show (((id - 1).toNat:Nat):Int)+1=id by omega] at this
  have e1:BH x id=partOf x id:=by unfold BH; rw [if_pos ox]
  have e2:BH y id=partOf y id:=by unfold BH; rw [if_pos oy]
  rw [e1,e2] at this
  refine ⟨(JW (Fg ox id)).merge (JW (Fg oy id)),?_⟩
  unfold CE at this
  split at this
  ·rename_i hc; have:=hc.2.2; omega
  ·cases this
 ·exact absurd (congrArg Prod.snd e) AD
theorem Fh {s:Sto}(h:SD s) (hk:Ad s=true){k:Nat}(hl:k+2≤s.parts.length):Ad (CP s k)=true:=by
 have hK:=StoK.of h hk
 obtain ⟨x,y,hx,hy,e⟩:=Es hl
 have mx:=AV hx
 have my:=AV hy
 have hn:=h.nm.len
 have hk2:=hk
 unfold Ad at hk2 ⊢
 simp only [AW,decide_eq_true_eq,List.all_eq_true,List.mem_range,Eg] at hk2 ⊢
 obtain ⟨⟨⟨⟨a1,a2⟩,a3⟩,a4⟩,a5⟩:=hk2
 refine ⟨⟨⟨⟨?_,a2⟩,fun p hp=>?_⟩,a4⟩,fun i hi=>?_⟩
 ·rw [e]
  simp only [List.length_append,List.length_take,List.length_drop,List.length_cons,List.length_nil]
  omega
 ·rw [e] at hp
  simp only [List.mem_append,List.mem_cons,List.not_mem_nil,or_false] at hp
  rcases hp with (hp | rfl) | hp
  ·exact a3 p (List.mem_of_mem_take hp)
  ·show Bm (Dv (BU x y 6)) s.idx.names.length=true
   have hblk:∀ (i:Nat) b,(BU x y 6)[i]? = some b→i< 6∧b=Bd (partOf x ((i:Int)+1)) (partOf y ((i:Int)+1)):=fun i b hb=>by
    unfold BU at hb
    rw [List.getElem?_map] at hb
    by_cases hi:i< 6
    ·rw [List.getElem?_range hi] at hb
     simp only [Option.map_some,Option.some.injEq] at hb
     exact ⟨hi,hb.symm⟩
    ·rw [List.getElem?_eq_none (by simp; omega)] at hb
     cases hb
   refine NS (fun b hb=>?_) (by rw [Dp]; omega) ?_ (fun i b hb hp=>?_)
   ·obtain ⟨i,hi⟩:=List.mem_iff_getElem?.1 hb
    obtain ⟨h6,rfl⟩:=hblk i b hi
    exact Ni h hk mx my AB AB
   ·obtain ⟨id,g1,g2,_,g4⟩:=Oo (a3 x mx)
    refine ⟨Bd (partOf x id) (partOf y id),?_,?_⟩
    ·unfold BU
     refine List.mem_map.2 ⟨(id - 1).toNat,by simp; omega,?_⟩
     rw [show (((id - 1).toNat:Nat):Int)+1=id by omega]
    ·have bx:=(h.part x mx).of id
     have by':=(h.part y my).of id
     have:=MX bx (bx.merge by') (fun t ht=>by
      rw [Cj t _ bx by']
      cases look t (partOf y id) with
      | none=>exact ht
      | some q=>rfl)
     omega
   ·obtain ⟨h6,rfl⟩:=hblk i b hb
    by_cases hin:i< s.idx.names.length
    ·exact hin
    ·rw [JH (p:=x) (fun j hj=>by have:=IN (a3 x mx) j hj; omega),JH (p:=y) (fun j hj=>by have:=IN (a3 y my) j hj; omega)] at hp
     exact absurd hp AE
  ·exact a3 p (List.mem_of_mem_drop hp)
 ·rw [(FF hK hl AB (by have:i< s.idx.names.length:=hi; omega)).2]
  exact a5 i hi
theorem QR {s:Sto}(h:SD s){k:Nat}(hl:k+2≤s.parts.length):SD (CP s k):=by
 obtain ⟨x,y,hx,hy,e⟩:=Es hl
 refine ⟨h.idx,h.nm,h.nd,?_,fun p hp=>?_,h.nm2,h.mem⟩
 ·have:=h.np
  rw [e]
  simp only [List.length_append,List.length_take,List.length_drop,List.length_cons,List.length_nil]
  omega
 ·rw [e] at hp
  simp only [List.mem_append,List.mem_cons,List.not_mem_nil,or_false] at hp
  rcases hp with (hp | rfl) | hp
  ·exact h.part p (List.mem_of_mem_take hp)
  ·exact (h.part x (AV hx)).merge (h.part y (AV hy))
  ·exact h.part p (List.mem_of_mem_drop hp)
section
variable {s:Sto} {i:Int}
theorem R6 (h:SD s) (h1:(BQ s i).2=true):SD (BQ s i).1:=by
 obtain ⟨_,h2,h3,e⟩:=IQ h h1
 rw [e]
 exact QR h AB
theorem Oq (h:SD s) (h1:(BQ s i).2=true):Bj (BQ s i).1 [] 0 99=Bj s [] 0 99∧Ad (BQ s i).1=true:=by
 obtain ⟨hk,h2,h3,e⟩:=IQ h h1
 have h5:=Fh h hk (k:=i.toNat) AB
 rw [e]
 exact ⟨Ks (x:=CP s i.toNat) (s:=s) rfl (hk.trans h5.symm) (fun _ id a b=>(FF (StoK.of h hk) AB a (by have:=h.nm.len; omega)).2) _ _,h5⟩
theorem QS (h:SD s) (h1:(BQ s i).2=true):(BQ s i).1.parts.length+1=s.parts.length∧0≤i∧i+2≤s.parts.length∧i+1≤(BQ s i).1.parts.length:=by
 obtain ⟨hk,h2,h3,e⟩:=IQ h h1
 obtain ⟨x,y,hx,hy,e2⟩:=Es (s:=s) (k:=i.toNat) AB
 rw [e,e2]
 simp only [List.length_append,List.length_take,List.length_drop,List.length_cons,List.length_nil]
 omega
end
end Go.Proofs.YtggnnidleedpaaaGreat
namespace Go.Proofs.YtggnnidleedpaaaGreat
theorem R7 (v:Int):∀ (l:List Int) (i:Nat),l.contains v=decide (EJ v i l≥0):=by
 intro l
 induction l with
 | nil=>intro i; simp [EJ]
 | cons x xs ih =>
   intro i
   have:=ih (i+1)
   have e:EJ v i (x::xs)=if x==v then (i:Int) else EJ v (i+1) xs:=rfl
   rw [e,List.contains_cons,this]
   by_cases h:x=v
   ·subst h; simp
   ·have h1:(x==v)=false:=beq_eq_false_iff_ne.2 h
    have h2:(v==x)=false:=beq_eq_false_iff_ne.2 (fun e=>h e.symm)
    rw [h1,h2]
    simp
def DZ (nx:Int):Option Int→List Fil→Bool
 | _,[]=>true
 | o,f::fs=>inR f.num 1 (nx - 1)&&(match o with | some q=>decide (q< f.num) | none=>true)&&Aw f.part&&DZ nx (some f.num) fs
def Ds (d:Dsk):Bool:=d.list.all (fun n=>decide (0≤Av d n))&&decide d.list.Nodup
def Az (d:Dsk):Bool:=inR d.next 1 999&&decide (d.files.length≤20)&&decide (d.list.length≤6)&&DZ d.next none d.files&&Ds d&&(nmB d.names&&Ad (Al d))
structure DD (d:Dsk):Prop where
 g:NmG d.names
 nl:d.list.length≤7
 nf:d.files.length≤20
 file:∀ f∈d.files,PrtI f.part
 next:0≤d.next∧d.next≤999
theorem DD.part {d:Dsk}(h:DD d) (n:Int):PrtI (Ax d n):=by
 unfold Ax
 rw [List.getD_eq_getElem?_getD]
 cases hx:d.files[(Av d n).toNat]? with
 | none=>exact PrtI.nil
 | some f=>exact h.file f (AV hx)
theorem DD.sg {d:Dsk}(h:DD d):SG (Al d):=by
 refine ⟨⟨h.g,fun _=>rfl⟩,by simp [Al]; exact h.nl,fun p hp=>?_,by simp [Al],by simp [Al]⟩
 simp only [Al,List.mem_map] at hp
 obtain ⟨n,_,rfl⟩:=hp
 exact h.part n
def Ju (fs:List Fil) (k:Nat):Option Int:=prev (fs.map Fil.num) k
theorem Nj {nx:Int}{fs:List Fil}{k:Nat}{f:Fil}{b:Bool}(h:DZ nx (Ju fs k) (fs.drop k)=b) (hd:fs.drop k=f::fs.drop (k+1)) (hf:fs[k]? = some f) (h1:inR f.num 1 (nx - 1)=true) (h2:k=0∨∃ q,fs[k - 1]? = some q∧¬ q.num≥f.num) (h3:Aw f.part=true):DZ nx (Ju fs (k+1)) (fs.drop (k+1))=b:=by
 rw [hd] at h
 unfold DZ at h
 have e:Ju fs (k+1)=some f.num:=by unfold Ju; rw [Pt,List.getElem?_map,hf]; rfl
 have e2:(match Ju fs k with | some q=>decide (q< f.num) | none=>true)=true:=by
  rcases h2 with rfl | ⟨q,hq,hlt⟩
  ·rfl
  ·by_cases hk:k=0
   ·subst hk; rfl
   ·have:Ju fs k=some q.num:=by unfold Ju; rw [M0 _ _ AB,List.getElem?_map,hq]; rfl
    rw [this]
    simp
    omega
 rw [h1,h3,e2] at h
 rw [e]
 simpa using h
theorem Mc {nx:Int}{fs:List Fil}{k:Nat}{f:Fil}{b:Bool}(h:DZ nx (Ju fs k) (fs.drop k)=b) (hd:fs.drop k=f::fs.drop (k+1)) (h1:inR f.num 1 (nx - 1)=false∨(0< k∧∃ q,fs[k - 1]? = some q∧q.num≥f.num)∨Aw f.part=false):b=false:=by
 rw [hd] at h
 unfold DZ at h
 rw [← h]
 rcases h1 with h1 | ⟨hk,q,hq,hge⟩ | h1
 ·rw [h1]; simp
 ·have:Ju fs k=some q.num:=by unfold Ju; rw [M0 _ _ AB,List.getElem?_map,hq]; rfl
  have e2:decide (q.num< f.num)=false:=decide_eq_false AB
  rw [this]
  simp only [e2]
  simp
 ·rw [h1]; simp
theorem Tv {nx:Int}{fs:List Fil}{k:Nat}{b:Bool}(h:DZ nx (Ju fs k) (fs.drop k)=b) (hk:fs.length≤k):b=true:=by
 rw [Ab hk] at h
 exact h.symm
def R8 (d:Dsk) (k:Nat):Prop:=∀ j n,j< k→d.list[j]? = some n→0≤Av d n∧n∉d.list.take j
theorem VJ (d:Dsk):R8 d 0:=fun j _ h=>absurd h AB
def fresh (d:Dsk) (n:Int) (k:Nat):Prop:=n∉d.list.take k
theorem R9 {d:Dsk}{n:Int}{k:Nat}(h:((d.list.take k).drop 0).contains n=false):fresh d n k:=by
 unfold fresh
 rw [List.drop_zero] at h
 intro hm
 rw [List.contains_iff_mem.2 hm] at h
 cases h
theorem QT {d:Dsk}{k j:Nat}{n:Int}(h:R8 d k) (hn:d.list[k]? = some n) (h1:¬ Av d n< 0) (h2:fresh d n j) (hj:k≤j):R8 d (k+1):=fun i m hi hm=>by
 by_cases e:i=k
 ·subst e
  rw [hn] at hm
  cases hm
  refine ⟨by omega,fun hmem=>h2 ?_⟩
  obtain ⟨a,ha⟩:=List.mem_iff_getElem?.1 hmem
  rw [List.getElem?_take] at ha
  split at ha
  ·exact List.mem_iff_getElem?.2 ⟨a,by rw [List.getElem?_take,if_pos AB]; exact ha⟩
  ·cases ha
 ·exact h i m AB hm
theorem Nk {d:Dsk}{k:Nat}(h:R8 d k) (hk:d.list.length≤k):Ds d=true:=by
 unfold Ds
 rw [AW,List.all_eq_true,decide_eq_true_eq]
 refine ⟨fun n hn=>?_,?_⟩
 ·obtain ⟨j,hj⟩:=List.mem_iff_getElem?.1 hn
  have:=(h j n (by have:=(List.getElem?_eq_some_iff.1 hj).1; omega) hj).1
  simpa using this
 ·unfold List.Nodup
  rw [List.pairwise_iff_getElem]
  intro i j hi hj hij e
  refine (h j d.list[j] AB (AU hj)).2 ?_
  rw [← e]
  exact List.mem_iff_getElem?.2 ⟨i,by rw [List.getElem?_take,if_pos hij]; exact AU hi⟩
theorem VK {d:Dsk}{k:Nat}{n:Int}(hn:d.list[k]? = some n) (h:Av d n< 0):Ds d=false:=by
 cases hb:Ds d with
 | false=>rfl
 | true =>
   unfold Ds at hb
   rw [AW,List.all_eq_true] at hb
   have:=hb.1 n (AV hn)
   simp at this
   omega
theorem VM {d:Dsk}{k:Nat}{n:Int}(hn:d.list[k]? = some n) (h:n∈d.list.take k):Ds d=false:=by
 cases hb:Ds d with
 | false=>rfl
 | true =>
   unfold Ds at hb
   rw [AW,decide_eq_true_eq] at hb
   obtain ⟨i,hi⟩:=List.mem_iff_getElem?.1 h
   rw [List.getElem?_take] at hi
   split at hi
   ·rename_i hik
    have hd:=hb.2
    unfold List.Nodup at hd
    rw [List.pairwise_iff_getElem] at hd
    obtain ⟨a1,a2⟩:=List.getElem?_eq_some_iff.1 hi
    obtain ⟨b1,b2⟩:=List.getElem?_eq_some_iff.1 hn
    exact absurd (a2.trans b2.symm) (hd i k a1 b1 hik)
   ·cases hi
theorem EX {d:Dsk}(h:Ds d=true):∀ n∈d.list,0≤Av d n:=fun n hn=>by
 unfold Ds at h
 rw [AW,List.all_eq_true] at h
 have:=h.1 n hn
 simpa using this
theorem VN {d:Dsk}{k:Nat}{n:Int}(hn:d.list[k]? = some n) (h:((d.list.take k).drop 0).contains n=true):Ds d=false:=by
 rw [List.drop_zero] at h
 exact VM hn (List.contains_iff_mem.1 h)
section
variable {d:Dsk}
theorem VP (h:inR d.next 1 999=false∨(d.files.length:Int) > 20∨(d.list.length:Int) > 6∨(d.names.length:Int) > 6):Az d=false:=by
 unfold Az
 rcases h with h | h | h | h
 ·rw [h]; simp
 ·rw [decide_eq_false (p:=d.files.length≤20) AB]; simp
 ·rw [decide_eq_false (p:=d.list.length≤6) AB]; simp
 ·rw [← Tb h]; simp
theorem Tw (h:DZ d.next none d.files=false):Az d=false:=by unfold Az; rw [h]; simp
theorem WN (h:Ds d=false):Az d=false:=by unfold Az; rw [h]; simp
theorem Ws (h1:inR d.next 1 999=true) (h2:¬ (d.files.length:Int) > 20) (h3:¬ (d.list.length:Int) > 6) (h5:DZ d.next none d.files=true) (h6:Ds d=true):Az d=(nmB d.names&&Ad (Al d)):=by
 unfold Az
 rw [h1,h5,h6,decide_eq_true AB,decide_eq_true AB]
 simp
theorem Wt {y:Sto}(h1:inR d.next 1 999=true) (h2:¬ (d.files.length:Int) > 20) (h3:¬ (d.list.length:Int) > 6) (h5:DZ d.next none d.files=true) (h6:Ds d=true) (hd:NsD d.names) (hy:y.idx.names=d.names∧(NmI d.names→NsD d.names→y=Al d)):(nmB y.idx.names&&Ad y)=Az d:=by
 rw [Ws h1 h2 h3 h5 h6,hy.1]
 cases hb:nmB d.names with
 | false=>rfl
 | true=>rw [hy.2 (D4.1 hb) hd]
theorem Fi (h:Az d=true):NmI d.names∧Ad (Al d)=true∧Ds d=true:=by
 unfold Az at h
 simp only [AW] at h
 exact ⟨D4.1 h.2.1,h.2.2,h.1.2⟩
theorem DD.sd (h:DD d) (hk:Az d=true):SD (Al d):=by
 obtain ⟨h1,h2,_⟩:=Fi hk
 have h3:=Ma h2
 exact h.sg.sd (D4.2 h1) h3
def CC (d:Dsk):Sto:=if Az d then Al d else ⟨⟨[],[]⟩,[],[]⟩
theorem Tx (h:Az d=false):CC d=⟨⟨[],[]⟩,[],[]⟩:=by unfold CC; rw [if_neg (by simp [h])]
theorem IS (h:Az d=true):CC d=Al d:=by unfold CC; rw [if_pos h]
end
theorem QU {d:Dsk}{l:List Int}{i:Nat}{n:Int}{k Y:List Prt}{f:Fil}(h:k++(l.drop i).map (Ax d)=Y) (hd:l.drop i=n::l.drop (i+1)) (hf:d.files[(Av d n).toNat]? = some f):(k++[f.part])++(l.drop (i+1)).map (Ax d)=Y:=by
 rw [hd,List.map_cons] at h
 rw [← h]
 have:Ax d n=f.part:=by unfold Ax; rw [List.getD_eq_getElem?_getD,hf]; rfl
 rw [this]
 simp
theorem SA {d:Dsk}{l:List Int}{i:Nat}{k Y:List Prt}(h:k++(l.drop i).map (Ax d)=Y) (hi:l.length≤i):k=Y:=by
 rw [Ab hi] at h
 simpa using h
theorem G5 {d:Dsk}{n:Int}(h:0≤Av d n):(Av d n).toNat< d.files.length∧Av d n=((Av d n).toNat:Int):=by
 have:=(J4 n d.files 0).1
 unfold Av at h ⊢
 omega
def D8 (d:Dsk) (y:Sto):Prop:=y.idx.names=d.names∧y.parts=(Al d).parts∧y.mem=[]∧(NmI d.names→NsD d.names→y=Al d)
theorem D8.mk {d:Dsk}{a:List (List Tag)}{b:List Pst}{c:List Prt}{e:List Smp}(h1:a=d.names) (h2:c=d.list.map (Ax d)) (h3:e=[]) (h4:NmI d.names→NsD d.names→(⟨a,b⟩:Idx)=idxOf d.names):D8 d ⟨⟨a,b⟩,c,e⟩:=by
 subst h2 h3
 refine ⟨h1,rfl,rfl,fun x y=>?_⟩
 unfold Al
 rw [h4 x y]
theorem D8.sg {d:Dsk}{y:Sto}(q:D8 d y) (h:DD d):SG y:=by
 obtain ⟨q1,q2,q3,q4⟩:=q
 refine ⟨⟨by rw [q1]; exact h.g,fun hn=>?_⟩,by rw [q2]; exact h.sg.np,fun p hp=>h.sg.part p (by rw [← q2]; exact hp),by rw [q3]; simp,by rw [q3]; simp⟩
 rw [q1] at hn ⊢
 have:=q4 hn h.g.nd
 rw [this]
 rfl
theorem D8.eq {d:Dsk}{y:Sto}(q:D8 d y) (h:DD d) (hk:Az d=true):y=CC d:=by rw [IS hk]; exact q.2.2.2 (Fi hk).1 h.g.nd
theorem D8.dk {d:Dsk}{y:Sto}(hy:D8 d y) (h:DD d) (h1:inR d.next 1 999=true) (h2:¬ (d.files.length:Int) > 20) (h3:¬ (d.list.length:Int) > 6) (h5:DZ d.next none d.files=true) (h6:Ds d=true):(nmB y.idx.names&&Ad y)=Az d:=Wt h1 h2 h3 h5 h6 h.g.nd ⟨hy.1,hy.2.2.2⟩
end Go.Proofs.YtggnnidleedpaaaGreat
namespace Go.Proofs.YtggnnidleedpaaaGreat
set_option maxRecDepth 100000
set_option maxHeartbeats 4000000
variable {w:World} {F:Nat→Prop} {a1 a2 a3:Option Addr} {n1 c1 n2 c2 n3 c3:Nat}
theorem Hg (f:Fil) (num:Int) (h1:RepS w F a1 n1 c1 f.part.ids) (h2:RepS w F a2 n2 c2 f.part.blocks){bq_num:Nat}(hb_num:Box w bq_num 3 [.int .i64 num])  : Calls Tryz.prog 127 [.agg #[.int .i64 f.num,.slice a1 n1 c1,.slice a2 n2 c2],.pointer (some ⟨bq_num,0,none⟩)].toArray w (Am fun rv w'=>rv=.bool ((f.num==num))∧Ext w w'):=by
 cases h1.len
 cases h2.len
 refine goT func127 ?_
 have Z:=(((St.i0 F w).p h1).p h2).pb' hb_num
 exact .s<|.g<|RG.Np Z fun ab w Z=>.r 1<|.d<|.s<|.g<|.r 1<|RG.Lb 0 Z<|RG.Lh 0 0 Z<|.r 2<|.d<|T.rt func127 results127 (.bool (f.num==num)) ⟨(AG AF),Z.xt⟩
theorem IT (s:List Fil) (num:Int) (h1:RepS w F a1 n1 c1 s){bq_num:Nat}(hb_num:Box w bq_num 3 [.int .i64 num])  : Calls Tryz.prog 126 [.slice a1 n1 c1,.func (.func 127) #[] #[.pointer (some ⟨bq_num,0,none⟩)]].toArray w (Am fun rv w'=>rv=.int .i64 (DA num 0 s)∧Ext w w'):=by
 refine goT func126 ?_
 obtain ⟨rfl,au,h1⟩:=h1.tp
 refine .s<|.g<|.r 1<|.d<|.s<|.s<|.g<|.r 3<|.d<|.b 0<|T.loop (X:=Nat) 0 (fun k=>[(0,.slice a1 s.length c1),(1,.func (.func 127) #[] #[.pointer (some ⟨bq_num,0,none⟩)]),(7,vI (s.length:Int)),(8,vI (k:Int))]) (fun k ab=>Chg (ins []) w ab∧(k≤s.length)∧(DA num k (s.drop k)=DA num 0 s)) (fun k=>s.length - k) AA ⟨AA,AA,AA,AA,trivial⟩ ⟨Chg.refl _ _,AD,AD⟩ ?_
 rintro k aD ab ⟨E,ax,ay⟩ ac
 have af:Mv [] [] w ab:=Mv.inl E all_nil all_nil
 replace ⟨h1,hb_num⟩:=(sp af E).g2 h1 hb_num
 have aa:Chg nil w ab:=Chg.LL (Chg.refl nil w) E all_nil
 refine .s<|.g<|.bp ((k:Int)< (s.length:Int)) (fun ak=>?_) (fun ak=>.d<|.s<|.cf<|.x 0 rfl<|.s<|.g<|.r 1<|.d<|.rt func126 results126 (vI (-1)) ⟨(congrArg (Value.int .i64) (by grind [DA,Ab])),aa⟩)
 refine .d<|.s<|.ct<|.sk<|.s<|.b 1<|.s<|.g<|.r 2<|.d<|.s<|.g<|.r 3 ?_
 have al:k< s.length:=AB
 refine .ix k 3 h1 al ?_
 obtain ⟨ah,ae⟩:∃ y,s[k]? = some y:=⟨_,AU AB⟩
 have az:=Bf ae
 obtain ⟨_,⟨aE,aF,aG,aH,aI,aJ,rfl,ai,aj⟩,am⟩:=h1.elem k ah ae
 have ao:=ai.len
 subst ao
 have aq:=aj.len
 subst aq
 refine .lg 0 am<|.cl (Hg ah num ai.ta aj.ta hb_num (w:=ab) (F:=all)) ?_
 rintro aK aL ⟨rfl,ag⟩
 replace ⟨hb_num,aa,E⟩:=(se [] ag).g3 hb_num aa E
 cases aC:(ah.num==num)
 ·exact .d<|.cf<|.sk<|.ib 1<|.g<|.it ((k:Int)+1)<|.r 1<|.d<|ac (k+1) _ _ ⟨AA,AA,AA,AA,trivial⟩ ⟨E,AB,(by grind [DA])⟩ AB
 exact .d<|.ct<|.s<|.g<|.r 2<|.d<|.rt func126 results126 (vI (k:Int)) ⟨(congrArg (Value.int .i64) (by grind [DA,Ab])),aa⟩
theorem Cr (d:Dsk) (num:Int) (h1:RepS w F a1 n1 c1 d.files) (h2:RepS w F a2 n2 c2 d.list) (h3:RepS w F a3 n3 c3 d.names)  : Calls Tryz.prog 83 [.agg #[.slice a1 n1 c1,.slice a2 n2 c2,.slice a3 n3 c3,.int .i64 d.next],.int .i64 num].toArray w (Am fun rv w'=>rv=.int .i64 (Av d num)∧Ext w w'):=by
 cases h1.len
 cases h2.len
 cases h3.len
 refine goT func83 ?_
 have Z:=(((St.i0 F w).p h1).p h2).p h3
 exact .s<|.g<|RG.Np Z fun ac w Z=>RG.Np Z fun ae w Z=>.r 1<|.d<|.s<|.g<|.r 1<|RG.Lb 1 Z<|.r 1<|RG.C0 (IT d.files num (Z.a 2) (Z.bc 0)) Z fun w Z=>.r 1<|.d<|T.rt func83 results83 (vI (DA num 0 d.files)) ⟨(congrArg (Value.int .i64) AF),Z.xt⟩
theorem Cc (s:List Int) (v:Int) (h1:RepS w F a1 n1 c1 s)  : Calls Tryz.prog 84 [.slice a1 n1 c1,.int .i64 v].toArray w (Am fun rv w'=>rv=.bool (s.contains v)∧Ext w w'):=by
 cases h1.len
 refine goT func84 ?_
 have Z:=(St.i0 F w).p h1
 exact .s<|.g<|.r 1<|.d<|.s<|.g<|.r 2<|RG.C0 (Dx s v (Z.a 0)) Z fun w Z=>.r 2<|.d<|T.rt func84 results84 (.bool (decide (EJ v 0 s≥0))) ⟨(AG (by exact (R7 v s 0).symm)),Z.xt⟩
theorem EN (d:Dsk) (h1:RepS w F a1 n1 c1 d.files) (h2:RepS w F a2 n2 c2 d.list) (h3:RepS w F a3 n3 c3 d.names) (p0:DD d) (p1:∀ n∈d.list,0≤Av d n):Calls Tryz.prog 46 [.agg #[.slice a1 n1 c1,.slice a2 n2 c2,.slice a3 n3 c3,.int .i64 d.next]].toArray w (Am fun rv w'=>(∃ (y:Sto),VS (ge w.heap.size) w' (y:Sto) rv∧(D8 d y))∧Ext w w'):=by
 cases h1.len
 cases h2.len
 cases h3.len
 refine goT func46 ?_
 have Z:=(((St.i0 F w).p h1).p h2).p h3
 have aI:=h2.max
 refine .s<|.g<|RG.Np Z fun al w Z=>RG.Np Z fun am w Z=>.d<|.s<|.g<|.r 1<|RG.Lb 1 Z<|RG.cl (GC d.names (Z.a 0) p0.g.len p0.g.l5 p0.g.bl) ?_
 rintro aT w ⟨⟨ag,ax,aK⟩,ao⟩
 refine RG.vS Z ax ao ?_
 intro ay az aA aB Z
 refine RG.N0 Prt 0 Z fun aC w Z=>RG.N0 Smp 0 Z fun aD w Z=>.r 1<|RG.Np Z fun ai w Z=>RG.Ss 0 Z fun w Z=>.d<|.s<|.s<|.g<|.r 1<|RG.Lb 4 Z<|.r 2<|.d<|.b 0<|T.Lp ((0:Nat),(ag.names:List (List Tag)),ay,az,(ag.AY:List Pst),aA,aB,([]:List Prt),aC,(0:Nat),([]:List Smp),aD,(0:Nat)) (fun (k,aa,a_s_0,c_s_0,ab,a_s_1,c_s_1,E,r_s_2,c_s_2,ac,r_s_3,c_s_3)=>([(1,vP al),(2,vP am),(3,vP ai),(13,.slice a2 d.list.length c2),(14,vI (d.list.length:Int)),(15,vI (k:Int))],[(0,.box ai 32 [.slice a_s_0 aa.length c_s_0,.slice a_s_1 ab.length c_s_1,vS r_s_2 E.length c_s_2,vS r_s_3 ac.length c_s_3]),(1,.own 0 r_s_3 85 c_s_3 ac),(2,.own 0 r_s_2 48 c_s_2 E)],[⟨0,none,.rep a_s_0 c_s_0 aa⟩,⟨0,none,.rep a_s_1 c_s_1 ab⟩],d.list.length - k,(k≤d.list.length)∧(E.length≤k)∧(E++(d.list.drop k).map (Ax d)=d.list.map (Ax d))∧(ac=[])∧(aa=d.names)∧((NmI d.names→NsD d.names→(⟨aa,ab⟩:Idx)=idxOf d.names)))) [0,1] Z ⟨AD,AD,AF,AF,(by have q1:ag.names=d.names∧(NmI d.names→NsD d.names→ag=idxOf d.names):=‹_›; exact q1.1),(by have q1:ag.names=d.names∧(NmI d.names→NsD d.names→ag=idxOf d.names):=‹_›; exact q1.2)⟩ ?_
 rintro ⟨k,aa,a_s_0,c_s_0,ab,a_s_1,c_s_1,E,r_s_2,c_s_2,ac,r_s_3,c_s_3⟩ aU w Z ⟨aL,aM,aN,aO,aP,aQ⟩ ah
 refine .s<|.g<|.bp ((k:Int)< (d.list.length:Int)) (fun aq=>?_) (fun aq=>?_)
 ·exact .d<|.s<|.ct<|.sk<|.s<|.b 1<|.s<|.g<|gxb (h:=AB) d.list k fun aj ae aR ar=>RG.Ix 5 ae Z<|Z.el 5 ae fun Z=>RG.Lh 0 0 Z<|.r 1<|.d<|T.GS 12 [ai,am,al] Z fun _ w Z=>.r [0]<|GA.Lb 1 0 Z<|.r [2]<|GA.Lb (q:=2) 3 4 Z<|GA.Ln (q:=2) 4 4 Z<|.r [5]<|GA.D0 6 Z (fun w Y=>Cr d aj (Y.a 7) (Y.a 6) (Y.a 5))<|gxm (h:=(by exact (G5 (p1 _ ‹_›)).1)) d.files ((Av d aj).toNat) fun ak af au=>GA.Jx (hz:=(by exact (G5 (p1 _ ‹_›)).2)) 7 7 (Av d aj) af Z<|.r [8]<|Z.el 7 af fun aV aW aX aY Z=>GA.Lg 9 0 1 Z<|.go 10<|GE.CS (fun w Z=>Ar ak.part (Z.a 1) (Z.a 2) (p0.file _ ‹_›).sz) Z fun aZ ba bd bg w Z=>.go 11<|GE.Nb 1 Z fun bh w Z=>GA.Do Z fun w Z=>RG.Ap (hs:=by exact (by have:=p0.nl; omega)) 2 0 E ak.part [0,1] Z fun aF aG w Z=>.r 1<|RG.Ss 0 Z fun w Z=>.d<|.ib 1<|.g<|RG.int ((k:Int)+1) AA AB<|.r 1<|.d<|ah (k+1,aa,a_s_0,c_s_0,ab,a_s_1,c_s_1,(E++[ak.part]),aF,aG,ac,r_s_3,c_s_3) _ _ AA (Z.to 0 [6,7] 8) ⟨AB,(by simp; omega),(by exact QU ‹_› ‹_› ‹_›),‹_›,‹_›,‹_›⟩ (by (simp only []; omega))
 refine .d<|.s<|.cf<|.x 0 rfl<|.s<|.g<|RG.Ln 0 Z<|RG.Ss 3 Z fun w Z=>.d ?_
 have Z:=(Z.sl 2).sl 1
 exact T.Rb 1 func46 results46 Z ⟨⟨((⟨(⟨aa,ab⟩:Idx),E,ac⟩:Sto):Sto),Z.rS (⟨(⟨aa,ab⟩:Idx),E,ac⟩:Sto) [2,3,1,0] rfl,(by exact D8.mk ‹_› (SA ‹_› AB) ‹_› ‹_›)⟩,Z.xt⟩
theorem C5 (d:Dsk) (h1:RepS w F a1 n1 c1 d.files) (h2:RepS w F a2 n2 c2 d.list) (h3:RepS w F a3 n3 c3 d.names) (p0:DD d):Calls Tryz.prog 45 [.agg #[.slice a1 n1 c1,.slice a2 n2 c2,.slice a3 n3 c3,.int .i64 d.next]].toArray w (Am fun rv w'=>rv=.bool (Az d)∧Ext w w'):=by
 cases h1.len
 cases h2.len
 cases h3.len
 refine goT func45 ?_
 have Z:=(((St.i0 F w).p h1).p h2).p h3
 have aF:=h1.max
 have aG:=h2.max
 refine .s<|.g<|RG.Np Z fun ak w Z=>.r 1<|.d<|.s<|.s<|.g<|.r 1<|RG.Lb 0 Z<|RG.C0 (Br d.next 1 999 (F:=all)) Z fun w Z=>?_
 cases ah:(inR d.next 1 999)
 ·exact .r 13<|.d<|.ct<|.s<|.g<|.r 1<|.d<|T.rt func45 results45 (.bool false) ⟨(AG (by symm; exact VP (.inl ‹_›))),Z.xt⟩
 have aJ:=By ah
 refine .r 3<|RG.Lb 0 Z<|.r 1<|.bp ((d.files.length:Int) > 20) (fun al=>.r 7<|.d<|.ct<|.s<|.g<|.r 1<|.d<|T.rt func45 results45 (.bool false) ⟨(AG (by symm; exact VP (.inr (.inl ‹_›)))),Z.xt⟩) fun al=>.r 3<|RG.Lb 0 Z<|.r 1<|.bp ((d.list.length:Int) > 6) (fun am=>.r 1<|.d<|.ct<|.s<|.g<|.r 1<|.d<|T.rt func45 results45 (.bool false) ⟨(AG (by symm; exact VP (.inr (.inr (.inl ‹_›))))),Z.xt⟩) fun am=>.r 1<|.d<|.cf<|.sk<|.s<|.s<|.g<|.r 1<|RG.Lb 0 Z<|.r 2<|.d<|.b 0<|T.Lp (0:Nat) (fun k=>([(1,vP ak),(24,.slice a1 d.files.length c1),(25,vI (d.files.length:Int)),(26,vI (k:Int))],[],[],d.files.length - k,(k≤d.files.length)∧(DZ d.next (Ju d.files k) (d.files.drop k)=DZ d.next none d.files))) [] Z ⟨AD,AF⟩ ?_
 rintro k aY w Z ⟨aK,aL⟩ E
 refine .s<|.g<|.bp ((k:Int)< (d.files.length:Int)) (fun ao=>?_) (fun ao=>?_)
 ·refine .d<|.s<|.ct<|.sk<|.s<|.b 1<|.s<|.g<|.r 1<|gxd d.files k fun aa ab aM=>RG.Ix 2 ab Z<|Z.el 2 ab fun aZ ba bd bg Z=>RG.Lg 0 0 Z<|RG.Np Z fun bh w Z=>.r 1<|RG.Ss 0 Z fun w Z=>.d<|.s<|T.Gd 20 Z fun w Z=>.r [0]<|GA.Lb 1 0 Z<|.r [2]<|GA.Lb 3 1 Z<|GA.int (i:=4) (d.next - 1) AA (by have q1:=p0.next; omega)<|GA.C0 5 Z (fun w Z=>Br aa.num 1 (d.next - 1) (F:=all)) ?_
  cases ai:(inR aa.num 1 (d.next - 1))
  ·exact .r [6,7]<|GA.Sk Z fun w Z=>.r 9<|.d<|.ct<|.s<|.g<|.r 1<|.d<|T.rt func45 results45 (.bool false) ⟨(AG (by symm; exact Tw (Mc ‹_› ‹_› (.inl ‹_›)))),Z.xt⟩
  refine .r [6,7,8]<|GA.F3 (i:=9) ((k:Int) > 0) AA (fun aq=>?_) (fun aq=>?_)
  ·refine .r [10,11]<|GA.Lb 12 1 Z<|.r [13]<|GA.int (i:=14) ((k:Int) - 1) AA (by have q1:=p0.next; omega)<|gx d.files (k - 1) fun aD ac=>GA.Jx 15 5 ((k:Int) - 1) ac Z<|.r [16]<|Z.el 5 ac fun bi bj bk bm Z=>GA.Lh 17 0 0 Z<|.r [18]<|GA.Lb 19 0 Z<|GA.Dn Z fun w Z=>.bp (aD.num≥aa.num) (fun ar=>.r 8<|.d<|.ct<|.s<|.g<|.r 1<|.d<|T.rt func45 results45 (.bool false) ⟨(AG (by symm; exact Tw (Mc ‹_› ‹_› (.inr (.inl ⟨by omega,_,by assumption,by assumption⟩))))),Z.xt⟩) fun ar=>.r 4<|RG.Ln 0 Z<|RG.C0 (C4 aa.part (Z.a 4) (Z.a 5)) Z fun w Z=>?_
   cases aQ:(Aw aa.part)
   ·exact .r 2<|.d<|.ct<|.s<|.g<|.r 1<|.d<|T.rt func45 results45 (.bool false) ⟨(AG (by symm; exact Tw (Mc ‹_› ‹_› (.inr (.inr ‹_›))))),Z.xt⟩
   exact .r 2<|.d<|.cf<|.sk<|.ib 1<|.g<|RG.int ((k:Int)+1) AA (by have q1:=p0.next; omega)<|.r 1<|.d<|E (k+1) _ _ AA (Z.to 1 [] 6) ⟨AB,(by exact Nj ‹_› ‹_› ‹_› ‹_› (.inr ⟨_,by assumption,by assumption⟩) ‹_›)⟩ (by (simp only []; omega))
  refine .r [10]<|GA.Sk Z fun w Z=>.r 5<|RG.Ln 0 Z<|RG.C0 (C4 aa.part (Z.a 1) (Z.a 2)) Z fun w Z=>?_
  cases aR:(Aw aa.part)
  ·exact .r 2<|.d<|.ct<|.s<|.g<|.r 1<|.d<|T.rt func45 results45 (.bool false) ⟨(AG (by symm; exact Tw (Mc ‹_› ‹_› (.inr (.inr ‹_›))))),Z.xt⟩
  exact .r 2<|.d<|.cf<|.sk<|.ib 1<|.g<|RG.int ((k:Int)+1) AA (by have q1:=p0.next; omega)<|.r 1<|.d<|E (k+1) _ _ AA (Z.to 1 [] 3) ⟨AB,(by exact Nj ‹_› ‹_› ‹_› ‹_› (.inl AB) ‹_›)⟩ (by (simp only []; omega))
 refine .d<|.s<|.cf<|.x 0 rfl<|.s<|.s<|.g<|.r 1<|RG.Lb 0 Z<|.r 2<|.d<|.b 2<|T.Lp (0:Nat) (fun k=>([(1,vP ak),(62,.slice a2 d.list.length c2),(63,vI (d.list.length:Int)),(64,vI (k:Int))],[],[],d.list.length - k,(k≤d.list.length)∧(DZ d.next none d.files=true)∧(R8 d k))) [] Z ⟨AD,(by exact Tv ‹_› AB),(by exact VJ _)⟩ ?_
 rintro k bn w Z ⟨aS,aT,aU⟩ af
 refine .s<|.g<|.bp ((k:Int)< (d.list.length:Int)) (fun au=>?_) (fun au=>?_)
 ·refine .d<|.s<|.ct<|.sk<|.s<|.b 3<|.s<|.g<|.r 1<|gx d.list k fun ag ae=>RG.Ix 1 ae Z<|Z.el 1 ae fun Z=>RG.Lh 0 0 Z<|.r 2<|.d<|.s<|.g<|RG.Ln 0 Z<|.r 1<|RG.C0 (Cr d ag (Z.a 3) (Z.a 2) (Z.a 1)) Z fun w Z=>.bp (Av d ag< 0) (fun ax=>.r 8<|.d<|.ct<|.s<|.g<|.r 1<|.d<|T.rt func45 results45 (.bool false) ⟨(AG (by symm; exact WN (VK ‹_› ‹_›))),Z.xt⟩) fun ax=>.r 2<|RG.Lb 0 Z<|.r 1<|RG.Sb (hhi:=bdS AA) 2 0 k d.list Z fun bo bq Z=>.r 1<|RG.C0 (Cc ((d.list.take k).drop 0) ag (Z.a 0)) Z fun w Z=>?_
  cases aW:((d.list.take k).drop 0).contains ag
  ·exact .r 1<|.d<|.cf<|.sk<|.ib 3<|.g<|RG.int ((k:Int)+1) AA (by have q1:=p0.next; omega)<|.r 1<|.d<|af (k+1) _ _ AA (Z.to 0 [] 2) ⟨AB,‹_›,(by exact QT ‹_› ‹_› ‹_› (R9 ‹_›) (Nat.le_refl _))⟩ (by (simp only []; omega))
  exact .r 1<|.d<|.ct<|.s<|.g<|.r 1<|.d<|T.rt func45 results45 (.bool false) ⟨(AG (by symm; exact WN (VN ‹_› ‹_›))),Z.xt⟩
 refine .d<|.s<|.cf<|.x 2 rfl<|.s<|.g<|RG.Ln 0 Z<|RG.cl (EN d (Z.a 2) (Z.a 1) (Z.a 0) p0 (EX (Nk ‹_› AB))) ?_
 rintro br w ⟨⟨aj,aE,aX⟩,ay⟩
 refine RG.vS Z aE ay ?_
 intro bt bu bv bw bz bA bB bC Z
 exact RG.C0 (Ea aj (Z.a 0) (Z.a 1) (Z.a 2) (Z.a 3) (D8.sg (by assumption:D8 d _) p0)) Z fun w Z=>.r 1<|.d<|T.rt func45 results45 (.bool (nmB aj.idx.names&&Ad aj)) ⟨(AG (by exact D8.dk (by assumption:D8 d _) p0 ‹_› AB AB ‹_› (Nk ‹_› AB))),Z.xt⟩
theorem GI (d:Dsk) (h1:RepS w F a1 n1 c1 d.files) (h2:RepS w F a2 n2 c2 d.list) (h3:RepS w F a3 n3 c3 d.names) (p0:DD d):Calls Tryz.prog 26 [.agg #[.slice a1 n1 c1,.slice a2 n2 c2,.slice a3 n3 c3,.int .i64 d.next]].toArray w (Am fun rv w'=>VS (fo F w.heap.size) w' (CC d:Sto) rv∧Ext w w'):=by
 cases h1.len
 cases h2.len
 cases h3.len
 refine goT func26 ?_
 have Z:=(((St.i0 F w).p h1).p h2).p h3
 refine .s<|.g<|RG.Np Z fun ai w Z=>RG.Np Z fun aj w Z=>.d<|.s<|.s<|.g<|RG.Ln 1 Z<|RG.C0 (C5 d (Z.a 2) (Z.a 1) (Z.a 0) p0) Z fun w Z=>?_
 cases ag:(Az d)
 ·refine .r 1<|.d<|.ct<|.s<|.g<|.r 1<|RG.Ss 0 Z fun w Z=>.d ?_
  have Z:=(((Z.nl (List Tag)).nl Pst).nl Prt).nl Smp
  exact T.Rb 0 func26 results26 Z ⟨Z.rS (g:=1) (⟨(⟨([]:List (List Tag)),([]:List Pst)⟩:Idx),([]:List Prt),([]:List Smp)⟩:Sto) [3,2,1,0] (by exact (Tx ‹_›).symm),Z.xt⟩
 refine .r 1<|.d<|.cf<|.sk<|.s<|.g<|RG.Ln 1 Z<|RG.cl (EN d (Z.a 2) (Z.a 1) (Z.a 0) p0 (EX (Fi ‹_›).2.2)) ?_
 rintro ak w ⟨⟨aa,ab,ah⟩,E⟩
 refine RG.vS Z ab E ?_
 intro al am ao aq ar au ax ay Z
 exact RG.Ss 0 Z fun w Z=>.d<|T.Rb 0 func26 results26 Z ⟨Z.rS (g:=1) aa [0,1,2,3] (by exact D8.eq (by assumption:D8 d _) p0 ‹_›),Z.xt⟩
end Go.Proofs.YtggnnidleedpaaaGreat
namespace Go.Proofs.YtggnnidleedpaaaGreat
structure MI (s y:Sto) (i:Nat):Prop where
 sd:SD y
 ok:Ad y=true
 idx:y.idx=s.idx
 mem:y.mem=s.mem
 lo:1≤y.parts.length
 hi:y.parts.length≤1∨y.parts.length+i≤6
 rows:∀ id:Int,1≤id→id≤6→y.parts.foldl (Bs id) []=s.parts.foldl (Bs id) []
theorem MI.step {s y:Sto}{i:Nat}{a:Int}(h:MI s y i) (h1:(BQ y a).2=true):MI s (BQ y a).1 (i+1):=by
 obtain ⟨hk,h2,h3,e⟩:=IQ h.sd h1
 have hl:=QS h.sd h1
 refine ⟨R6 h.sd h1,(Oq h.sd h1).2,by rw [e]; exact h.idx,by rw [e]; exact h.mem,by omega,?_,fun id a1 a2=>?_⟩
 ·have:=h.hi; omega
 ·rw [e,(FF (StoK.of h.sd hk) AB a1 a2).1]
  exact h.rows id a1 a2
theorem MI.start {s:Sto}{a:Int}(h:SD s) (h1:(BQ s a).2=true):MI s s 0∧MI s (BQ s a).1 0:=by
 obtain ⟨hk,h2,h3,e⟩:=IQ h h1
 have h0:MI s s 0:=⟨h,hk,rfl,rfl,by omega,.inr (by have:=h.np; omega),fun _ _ _=>rfl⟩
 have h4:=h0.step h1
 exact ⟨h0,h4.sd,h4.ok,h4.idx,h4.mem,h4.lo,by have:=h4.hi; omega,h4.rows⟩
theorem MI.one {s y:Sto}{i:Nat}(h:MI s y i) (hi:6≤i):y.parts.length=1:=by have:=h.lo; have:=h.hi; omega
theorem SB:∀ (is:List Int) (bs:List (List Row)) (o:Option Int),Bq o is bs=true→is.length=bs.length→∀ is' bs',Bq o is' bs'=true→is'.length=bs'.length→(∀ id:Int,Bc id is bs=Bc id is' bs')→is=is'∧bs=bs':=by
 have low:∀ (is:List Int) (bs:List (List Row)) (o:Option Int),Bq o is bs=true→∀ q,o=some q→∀ i∈is,q< i:=by
  intro is
  induction is with
  | nil=>intro bs o _ q _ i hi; cases hi
  | cons x xs ih =>
    intro bs o hg q hq i hi
    cases bs with
    | nil=>simp [Bq] at hg
    | cons b bs =>
      simp only [Bq,AW] at hg
      have hx:q< x:=by have:=hg.1.1.1.2; rw [hq] at this; simpa using this
      rcases List.mem_cons.1 hi with rfl | hi
      ·exact hx
      ·have:=ih bs (some x) hg.2 x rfl i hi; omega
 have none_of:∀ (is:List Int) (bs:List (List Row)) (id:Int),(∀ i∈is,i≠id)→Bc id is bs=[]:=by
  intro is
  induction is with
  | nil=>intro bs id _; unfold Bc; rfl
  | cons i is ih =>
    intro bs id h
    cases bs with
    | nil=>unfold Bc; rfl
    | cons b bs =>
      unfold Bc
      rw [if_neg (by have:=h i AD; simpa using this)]
      exact ih bs id (fun j hj=>h j (by simp [hj]))
 have mem_of:∀ (is:List Int) (bs:List (List Row)) (id:Int),Bc id is bs≠[]→id∈is:=by
  intro is bs id h
  rcases Classical.em (id∈is) with h1 | h1
  ·exact h1
  ·exact absurd (none_of is bs id (fun i hi e=>h1 (e▸hi))) h
 intro is
 induction is with
 | nil =>
   intro bs o hg hl is' bs' hg' hl' h
   cases bs with
   | cons _ _=>simp at hl
   | nil =>
     cases is' with
     | nil =>
       cases bs' with
       | nil=>exact ⟨rfl,rfl⟩
       | cons _ _=>simp at hl'
     | cons i is' =>
       cases bs' with
       | nil=>simp at hl'
       | cons b bs' =>
         simp only [Bq,AW,decide_eq_true_eq] at hg'
         have:=h i
         unfold Bc at this
         rw [if_pos AD] at this
         rw [← this] at hg'
         exact absurd hg'.1.1.2 AD
 | cons i is ih =>
   intro bs o hg hl is' bs' hg' hl' h
   cases bs with
   | nil=>simp at hl
   | cons b bs =>
     have hg0:=hg
     simp only [Bq,AW,decide_eq_true_eq] at hg
     cases is' with
     | nil =>
       cases bs' with
       | cons _ _=>simp at hl'
       | nil =>
         have:=h i
         unfold Bc at this
         rw [if_pos AD] at this
         rw [this] at hg
         exact absurd hg.1.1.2 AD
     | cons i' is' =>
       cases bs' with
       | nil=>simp at hl'
       | cons b' bs' =>
         have hg0':=hg'
         simp only [Bq,AW,decide_eq_true_eq] at hg'
         have a1:Bc i (i'::is') (b'::bs')=b:=by rw [← h i]; unfold Bc; rw [if_pos AD]
         have a2:Bc i' (i::is) (b::bs)=b':=by rw [h i']; unfold Bc; rw [if_pos AD]
         have m1:=mem_of _ _ i (by rw [a1]; exact List.ne_nil_of_length_pos hg.1.1.2)
         have m2:=mem_of _ _ i' (by rw [a2]; exact List.ne_nil_of_length_pos hg'.1.1.2)
         have hii:i=i':=by
          rcases List.mem_cons.1 m1 with e | e
          ·exact e
          ·rcases List.mem_cons.1 m2 with e2 | e2
           ·exact e2.symm
           ·have:=low is' bs' (some i') hg'.2 i' rfl i e
            have:=low is bs (some i) hg.2 i rfl i' e2
            omega
         subst hii
         have hbb:b=b':=by
          rw [← a1]
          unfold Bc
          rw [if_pos AD]
         subst hbb
         have:=ih bs (some i) hg.2 (by simpa using hl) is' bs' hg'.2 (by simpa using hl') (fun id=>by
          by_cases e:i=id
          ·subst e
           rw [none_of is bs i (fun j hj e=>by have:=low is bs (some i) hg.2 i rfl j hj; omega),none_of is' bs' i (fun j hj e=>by have:=low is' bs' (some i) hg'.2 i rfl j hj; omega)]
          ·have:=h id
           unfold Bc at this
           rw [if_neg (by simpa using e),if_neg (by simpa using e)] at this
           exact this)
         rw [this.1,this.2]
         exact ⟨rfl,rfl⟩
theorem Nn {p q:Prt}(hp:Aw p=true) (hq:Aw q=true) (h:∀ id:Int,partOf p id=partOf q id):p=q:=by
 unfold Aw at hp hq
 simp only [AW,decide_eq_true_eq] at hp hq
 obtain ⟨e1,e2⟩:=SB p.ids p.blocks none hp.2 hp.1 q.ids q.blocks hq.2 hq.1 h
 cases p
 cases q
 simp only [Prt.mk.injEq]
 exact ⟨e1,e2⟩
end Go.Proofs.YtggnnidleedpaaaGreat
namespace Go.Proofs.YtggnnidleedpaaaGreat
theorem WD.dd {w:Wld}(h:WD w):DD w.disk:=⟨NmG.of h.wi.dsk.nm h.dn,by have:=h.wi.dsk.nl; omega,h.wi.dsk.nf,h.wi.dsk.file,by have:=h.wi.dsk.next; omega⟩
end Go.Proofs.YtggnnidleedpaaaGreat
namespace Go.Proofs.YtggnnidleedpaaaGreat
theorem RG.b2s {P:Program}{n:Nat}{K:Env→World→Prop}{ops:Array Oper}{j:Nat}{e:Env}{w:World}{s d:TypeId}{r c:Nat}{y:UInt8}{t:TypeId}{F:Nat→Prop}
 (ho:Own w r t F 1 c [y]) (h:Q9 n ops j e=some (s,d,.slice (some ⟨r,0,none⟩) 1 c)) (ht:TG P s d=true)
 (H:RG P n K ops (j+1) (Ai e (Ae ops j).dst (.string (bs [y]))) w):RG P n K ops j e w:=by
 obtain ⟨cs,h1,h2⟩:=ho.elem 0 y rfl
 cases h1
 have h3:Has w ⟨r,0,none⟩ [.int .u8 (y.toNat:Int)]:=by simpa using h2
 have h4:=Iv (P:=P) (w:=w) h (KZ h3 ht)
 exact RG.val h4.1 h4.2 H
theorem Nq:∀ (fs:List Fil) (nx:Int) (o:Option Int),DZ nx o fs=true→∀ f∈fs,1≤f.num∧f.num≤nx - 1∧Aw f.part=true:=by
 intro fs
 induction fs with
 | nil=>intro nx o _ f hf; cases hf
 | cons x xs ih =>
   intro nx o h f hf
   unfold DZ at h
   simp only [AW] at h
   rcases List.mem_cons.1 hf with rfl | hf
   ·have:=By h.1.1.1
    exact ⟨this.1,this.2,h.1.2⟩
   ·exact ih nx _ h.2 f hf
theorem Ot {p:Prt}(h:PrtI p) (hk:Aw p=true):BD p ⟨[],[]⟩=p:=by
 have hb:∀ id:Int,(partOf p id).length≤24:=fun id=>by
  have:=Fg hk id
  unfold Bg at this
  simp only [AW,decide_eq_true_eq] at this
  exact this.2
 have e:∀ id:Int,partOf (⟨[],[]⟩:Prt) id=[]:=fun id=>by unfold partOf Bc; rfl
 have hz:∀ id:Int,¬ (1≤id∧id≤6)→∀ q:Prt,Aw q=true→partOf q id=[]:=fun id hid q hq=>by
  unfold Aw at hq
  simp only [AW,decide_eq_true_eq] at hq
  have key:∀ (is:List Int) (bs:List (List Row)) (o:Option Int),Bq o is bs=true→Bc id is bs=[]:=by
   intro is
   induction is with
   | nil=>intro bs o _; unfold Bc; rfl
   | cons i is ih =>
     intro bs o hg
     cases bs with
     | nil=>unfold Bc; rfl
     | cons b bs =>
       simp only [Bq,AW] at hg
       have h5:=By hg.1.1.1.1
       unfold Bc
       rw [if_neg (by simp; omega)]
       exact ih bs _ hg.2
  exact key _ _ _ hq.2
 have hm:Aw (BD p ⟨[],[]⟩)=true:=by
  unfold BD
  refine NR (fun b hb2=>?_) (by rw [Dp]; omega)
  unfold BU at hb2
  obtain ⟨i,_,rfl⟩:=List.mem_map.1 hb2
  rw [e,Kj]
  exact ⟨h.of _,hb _⟩
 refine Nn hm hk (fun id=>?_)
 by_cases hid:1≤id∧id≤6
 ·rw [Ls _ _ hid.1 hid.2,e,Kj]
 ·rw [hz id hid _ hm,hz id hid _ hk]
theorem C3 {d:Dsk}(h:Az d=true):(1≤d.next∧d.next≤999)∧d.list.length≤6∧DZ d.next none d.files=true∧Ds d=true:=by
 unfold Az at h
 simp only [AW,decide_eq_true_eq] at h
 exact ⟨By h.1.1.1.1.1,h.1.1.1.2,h.1.1.2,h.1.2⟩
theorem DD.Ub {d:Dsk}(h:DD d) (hk:Az d=true):BK d=d:=by
 have hf:=(C3 hk).2.2.1
 have:d.files.map KV=d.files:=by
  have key:∀ f∈d.files,KV f=f:=fun f hm=>by
   unfold KV
   rw [Ot (h.file f hm) (Nq _ _ _ hf f hm).2.2]
  exact (List.map_congr_left key).trans (List.map_id _)
 unfold BK
 rw [this]
theorem DD.di {d:Dsk}(h:DD d) (hk:Az d=true):DskI d:=by
 obtain ⟨h1,h2,h3,h4⟩:=C3 hk
 have hth:∀ n∈d.list,∃ f∈d.files,f.num=n:=fun n hn=>(E2 d n).1 (EX h4 n hn)
 refine ⟨(Fi hk).1,h.nf,h.file,h2,hth,fun n hn=>?_,h1⟩
 obtain ⟨f,hf,rfl⟩:=hth n hn
 have:=Nq _ _ _ h3 f hf
 omega
theorem SC:(IG 0 [] []).length≤12:=by decide
theorem SE:DD ⟨[],[],[],0⟩:=⟨⟨by simp,NsD.nil,SC⟩,by simp,by simp,by simp,by simp⟩
end Go.Proofs.YtggnnidleedpaaaGreat
namespace Go.Proofs.YtggnnidleedpaaaGreat
def CZ (d:Dsk) (s:Sto):Bool:=Az d&&(nmB s.idx.names&&Ad s)&&decide (s.parts=d.list.map (Ax d))&&decide (d.names=s.idx.names.take d.names.length)
theorem VQ {d:Dsk}{s:Sto}(h:Az d=false):false=CZ d s:=by unfold CZ; rw [h]; rfl
theorem VR {d:Dsk}{s:Sto}(h:(nmB s.idx.names&&Ad s)=false):false=CZ d s:=by unfold CZ; rw [h,Bool.and_false]; rfl
theorem VT {d:Dsk}{s:Sto}(h:s.parts≠d.list.map (Ax d)):false=CZ d s:=by unfold CZ; rw [decide_eq_false h,Bool.and_false]; rfl
theorem SF {d:Dsk}{s:Sto}(h:d.names≠s.idx.names.take d.names.length):false=CZ d s:=by unfold CZ; rw [decide_eq_false h,Bool.and_false]
theorem Ty {d:Dsk}{s:Sto}(h:(s.idx.names.length:Int)< d.names.length):false=CZ d s:=SF (fun e=>by
 have:=congrArg List.length e
 rw [List.length_take] at this
 omega)
theorem Nr {d:Dsk}{s:Sto}(h1:Az d=true) (h2:(nmB s.idx.names&&Ad s)=true) (h3:s.parts=d.list.map (Ax d)) (h4:d.names=s.idx.names.take d.names.length):true=CZ d s:=by unfold CZ; rw [h1,h2,decide_eq_true h3,decide_eq_true h4]; rfl
structure Fits (d:Dsk) (s:Sto):Prop where
 dk:Az d=true
 nm:nmB s.idx.names=true
 sk:Ad s=true
 p:s.parts=d.list.map (Ax d)
 m:d.names=s.idx.names.take d.names.length
theorem C9 {d:Dsk}{s:Sto}(h:CZ d s=true):Fits d s:=by
 unfold CZ at h
 simp only [AW,decide_eq_true_eq] at h
 exact ⟨h.1.1.1,h.1.1.2.1,h.1.1.2.2,h.1.2,h.2⟩
def Ag (d:Dsk) (s:Sto):List Stp:=if CZ d s then Au d s else []
theorem E5 {d:Dsk}{s:Sto}(h:CZ d s=true):Ag d s=Au d s:=by unfold Ag; rw [if_pos h]
theorem Ns {d:Dsk}{s:Sto}(h:CZ d s=false):Ag d s=[]:=by unfold Ag; rw [if_neg (by simp [h])]
end Go.Proofs.YtggnnidleedpaaaGreat
namespace Go.Proofs.YtggnnidleedpaaaGreat
theorem VU {d:Dsk}{s y:Sto}(hy:D8 d y) (h:(s.parts==y.parts)=false):false=CZ d s:=VT (fun e=>by
 have e2:s.parts=y.parts:=e.trans hy.2.1.symm
 rw [e2] at h
 simp at h)
theorem VV {d:Dsk}{s y:Sto}(hy:D8 d y) (h:(s.parts==y.parts)=true):s.parts=d.list.map (Ax d):=(eq_of_beq h).trans hy.2.1
theorem VW {d:Dsk}{s:Sto}(h:¬ (d.names.length:Int)≤s.idx.names.length):false=CZ d s:=Ty AB
theorem VX {d:Dsk}{s y:Sto}{l:List (List Tag)}(hy:D8 d y) (h1:Az d=true) (h2:(nmB s.idx.names&&Ad s)=true) (h3:(s.parts==y.parts)=true) (hl:l=s.idx.names.take d.names.length):(d.names==l)=CZ d s:=by
 subst hl
 by_cases e:d.names=s.idx.names.take d.names.length
 ·rw [beq_iff_eq.2 e]
  exact Nr h1 h2 (VV hy h3) e
 ·rw [beq_eq_false_iff_ne.2 e]
  exact SF e
def Eh (d:Dsk):Bool:=(d.next==999) || decide ((d.files.length:Int)=20)
theorem Tz {d:Dsk}(h:(d.next==999)=true):true=Eh d:=by unfold Eh; rw [h]; rfl
theorem SH {d:Dsk}(h:d.next=999):true=Eh d:=Tz (by simp [h])
theorem T0 {d:Dsk}(h:¬ d.next=999):((d.files.length:Int)==20)=Eh d:=by unfold Eh; rw [beq_eq_false_iff_ne.2 h,Bool.false_or]; by_cases e:(d.files.length:Int)=20 <;> simp [e]
theorem Pe {d:Dsk}(h:Eh d=false):¬ d.next=999∧¬ (d.files.length:Int)=20:=by
 unfold Eh at h
 simpa using h
theorem Pf {d:Dsk}(h:Eh d=true):d.next=999∨(d.files.length:Int)=20:=by
 unfold Eh at h
 simpa using h
theorem WO {d:Dsk}{s:Sto}(h:CZ d s=false):[]=Ag d s:=(Ns h).symm
theorem VY {d:Dsk}{s:Sto}(h:(s.mem.length:Int)=0∨(d.list.length:Int)=6∨Eh d=true):[]=Ag d s:=by
 cases hf:CZ d s with
 | false=>exact WO hf
 | true =>
   rw [E5 hf,EK]
   rcases h with h | h | h
   ·exact .inl h
   ·exact .inr (.inl AB)
   ·rcases Pf h with h | h
    ·exact .inr (.inr (.inl AB))
    ·exact .inr (.inr (.inr AB))
theorem Nt {d:Dsk}{s:Sto}(hf:CZ d s=true) (h1:¬ (s.mem.length:Int)=0) (h2:¬ (d.list.length:Int)=6) (h3:Eh d=false) (hd:DD d):[⟨1,d.next,Aj s.mem,[],[]⟩,⟨2,0,⟨[],[]⟩,d.list++[d.next],s.idx.names⟩]=Ag d s:=by
 have hk:=(C9 hf).dk
 have:=(C3 hk).2.1
 have:=(C3 hk).1
 have:=hd.nf
 have:=Pe h3
 rw [E5 hf,DJ h1 AB AB AB]
theorem C6 {d:Dsk}{s:Sto}(hs:SG s) (h:CZ d s=true):SD s:=by
 obtain ⟨h1,h2,h3,h4,h5⟩:=C9 h
 exact hs.sd h2 (Ma h3)
end Go.Proofs.YtggnnidleedpaaaGreat
namespace Go.Proofs.YtggnnidleedpaaaGreat
set_option maxRecDepth 100000
set_option maxHeartbeats 4000000
variable {w:World} {F:Nat→Prop} {a1 a2 a3 a4 a5 a6 a7:Option Addr} {n1 c1 n2 c2 n3 c3 n4 c4 n5 c5 n6 c6 n7 c7:Nat}
theorem D9 (a:List Row) (b:List Row) (h1:RepS w F a1 n1 c1 a) (h2:RepS w F a2 n2 c2 b)  : Calls Tryz.prog 119 [.slice a1 n1 c1,.slice a2 n2 c2].toArray w (Am fun rv w'=>rv=.bool ((a==b))∧Ext w w'):=by
 cases h1.len
 cases h2.len
 refine goT func119 ?_
 have Z:=((St.i0 F w).p h1).p h2
 have aj:=h1.max
 refine .s<|.g<|.r 1<|.d<|.s<|.s<|.g<|.r 4<|.ne (a.length:Int) (b.length:Int) (fun ac=>.d<|.ct<|.s<|.g<|.r 1<|.d<|T.rt func119 results119 (.bool false) ⟨(AG (by grind [Ab])),Z.xt⟩) fun ac=>.d<|.cf<|.sk<|.s<|.s<|.g<|.r 3<|.d<|.b 0<|T.Lp (0:Nat) (fun k=>([(0,.slice a1 a.length c1),(1,.slice a2 b.length c2),(12,vI (a.length:Int)),(13,vI (k:Int))],[],[],a.length - k,(k≤a.length)∧(a.drop k=b.drop k↔a=b))) [] Z ⟨AD,AD⟩ ?_
 rintro k au w Z ⟨al,am⟩ ab
 refine .s<|.g<|.bp ((k:Int)< (a.length:Int)) (fun ae=>?_) (fun ae=>.d<|.s<|.cf<|.x 0 rfl<|.s<|.g<|.r 1<|.d<|T.rt func119 results119 (.bool true) ⟨(AG (by grind [Ab])),Z.xt⟩)
 refine .d<|.s<|.ct<|.sk<|.s<|.b 1<|.s<|.g<|.r 2<|.d<|.s<|T.Gd 8 Z fun w Z=>.r [0,1]<|gxd a k fun af E ao=>GA.Ix 2 1 E Z<|Z.el 1 E fun Z=>GA.Lg 3 0 0 Z<|.r [4,5]<|gxd b k fun ag aa aq=>GA.Ix 6 1 aa Z<|Z.el 1 aa fun Z=>GA.Lg 7 0 0 Z<|GA.Dn Z fun w Z=>RG.Qo (t:=56) (x:=af) (y:=ag) AA AA ?_
 cases ar:(af==ag)
 ·exact .d<|.ct<|.s<|.g<|.r 1<|.d<|T.rt func119 results119 (.bool false) ⟨(AG (by grind [Ab])),Z.xt⟩
 exact .d<|.cf<|.sk<|.ib 1<|.g<|.it ((k:Int)+1)<|.r 1<|.d<|ab (k+1) _ _ AA (Z.to 0 [] 2) ⟨AB,(by grind)⟩ (by (simp only []; omega))
theorem Hh (s1:List (List Row)) (s2:List (List Row)) (h1:RepS w F a1 n1 c1 s1) (h2:RepS w F a2 n2 c2 s2)  : Calls Tryz.prog 118 [.slice a1 n1 c1,.slice a2 n2 c2,.func (.func 119) #[] #[]].toArray w (Am fun rv w'=>rv=.bool ((s1==s2))∧Ext w w'):=by
 cases h1.len
 cases h2.len
 refine goT func118 ?_
 have Z:=((St.i0 F w).p h1).p h2
 have aj:=h1.max
 refine .s<|.g<|.r 1<|.d<|.s<|.s<|.g<|.r 4<|.ne (s1.length:Int) (s2.length:Int) (fun ac=>.d<|.ct<|.s<|.g<|.r 1<|.d<|T.rt func118 results118 (.bool false) ⟨(AG (by grind [Ab])),Z.xt⟩) fun ac=>.d<|.cf<|.sk<|.s<|.s<|.g<|.r 3<|.d<|.b 0<|T.Lp (0:Nat) (fun k=>([(1,.slice a2 s2.length c2),(2,.func (.func 119) #[] #[]),(15,.slice a1 s1.length c1),(16,vI (s1.length:Int)),(17,vI (k:Int))],[],[],s1.length - k,(k≤s1.length)∧(s1.drop k=s2.drop k↔s1=s2))) [] Z ⟨AD,AD⟩ ?_
 rintro k au w Z ⟨al,am⟩ ab
 refine .s<|.g<|.bp ((k:Int)< (s1.length:Int)) (fun ae=>?_) (fun ae=>.d<|.s<|.cf<|.x 0 rfl<|.s<|.g<|.r 1<|.d<|T.rt func118 results118 (.bool true) ⟨(AG (by grind [Ab])),Z.xt⟩)
 refine .d<|.s<|.ct<|.sk<|.s<|.b 1<|.s<|.g<|.r 1<|gxd s1 k fun af E ao=>RG.Ix 1 E Z<|Z.el 1 E fun ax ay Z=>RG.Lh 0 0 Z<|.r 2<|.d<|.s<|.g<|.r 2<|gxd s2 k fun ag aa aq=>RG.Ix 2 aa Z<|Z.el 2 aa fun az aA Z=>RG.Lh 0 0 Z<|.r 1<|.d<|.s<|.g<|.r 3<|RG.C0 (D9 af ag (Z.a 3) (Z.a 1)) Z fun w Z=>?_
 cases ar:(af==ag)
 ·exact .r 1<|.d<|.ct<|.s<|.g<|.r 1<|.d<|T.rt func118 results118 (.bool false) ⟨(AG (by grind [Ab])),Z.xt⟩
 exact .r 1<|.d<|.cf<|.sk<|.ib 1<|.g<|.it ((k:Int)+1)<|.r 1<|.d<|ab (k+1) _ _ AA (Z.to 0 [] 4) ⟨AB,(by grind)⟩ (by (simp only []; omega))
theorem IU (s1:List (List Tag)) (s2:List (List Tag)) (h1:RepS w F a1 n1 c1 s1) (h2:RepS w F a2 n2 c2 s2)  : Calls Tryz.prog 76 [.slice a1 n1 c1,.slice a2 n2 c2,.func (.func 77) #[] #[]].toArray w (Am fun rv w'=>rv=.bool ((s1==s2))∧Ext w w'):=by
 cases h1.len
 cases h2.len
 refine goT func76 ?_
 have Z:=((St.i0 F w).p h1).p h2
 have aj:=h1.max
 refine .s<|.g<|.r 1<|.d<|.s<|.s<|.g<|.r 4<|.ne (s1.length:Int) (s2.length:Int) (fun ac=>.d<|.ct<|.s<|.g<|.r 1<|.d<|T.rt func76 results76 (.bool false) ⟨(AG (by grind [Ab])),Z.xt⟩) fun ac=>.d<|.cf<|.sk<|.s<|.s<|.g<|.r 3<|.d<|.b 0<|T.Lp (0:Nat) (fun k=>([(1,.slice a2 s2.length c2),(2,.func (.func 77) #[] #[]),(15,.slice a1 s1.length c1),(16,vI (s1.length:Int)),(17,vI (k:Int))],[],[],s1.length - k,(k≤s1.length)∧(s1.drop k=s2.drop k↔s1=s2))) [] Z ⟨AD,AD⟩ ?_
 rintro k au w Z ⟨al,am⟩ ab
 refine .s<|.g<|.bp ((k:Int)< (s1.length:Int)) (fun ae=>?_) (fun ae=>.d<|.s<|.cf<|.x 0 rfl<|.s<|.g<|.r 1<|.d<|T.rt func76 results76 (.bool true) ⟨(AG (by grind [Ab])),Z.xt⟩)
 refine .d<|.s<|.ct<|.sk<|.s<|.b 1<|.s<|.g<|.r 1<|gxd s1 k fun af E ao=>RG.Ix 1 E Z<|Z.el 1 E fun ax ay Z=>RG.Lh 0 0 Z<|.r 2<|.d<|.s<|.g<|.r 2<|gxd s2 k fun ag aa aq=>RG.Ix 2 aa Z<|Z.el 2 aa fun az aA Z=>RG.Lh 0 0 Z<|.r 1<|.d<|.s<|.g<|.r 3<|RG.C0 (Ce af ag (Z.a 3) (Z.a 1)) Z fun w Z=>?_
 cases ar:(af==ag)
 ·exact .r 1<|.d<|.ct<|.s<|.g<|.r 1<|.d<|T.rt func76 results76 (.bool false) ⟨(AG (by grind [Ab])),Z.xt⟩
 exact .r 1<|.d<|.cf<|.sk<|.ib 1<|.g<|.it ((k:Int)+1)<|.r 1<|.d<|ab (k+1) _ _ AA (Z.to 0 [] 4) ⟨AB,(by grind)⟩ (by (simp only []; omega))
theorem Jv (a:Prt) (b:Prt) (h1:RepS w F a1 n1 c1 a.ids) (h2:RepS w F a2 n2 c2 a.blocks) (h3:RepS w F a3 n3 c3 b.ids) (h4:RepS w F a4 n4 c4 b.blocks)  : Calls Tryz.prog 75 [.agg #[.slice a1 n1 c1,.slice a2 n2 c2],.agg #[.slice a3 n3 c3,.slice a4 n4 c4]].toArray w (Am fun rv w'=>rv=.bool ((a==b))∧Ext w w'):=by
 cases h1.len
 cases h2.len
 cases h3.len
 cases h4.len
 refine goT func75 ?_
 have Z:=((((St.i0 F w).p h1).p h2).p h3).p h4
 have E:=h1.max
 have aa:=h2.max
 have ab:=h3.max
 have ac:=h4.max
 refine .s<|.g<|RG.Np Z fun af w Z=>RG.Np Z fun ag w Z=>.r 1<|.d<|.s<|.g<|.r 1<|RG.Lb 1 Z<|.r 1<|RG.Lb 0 Z<|RG.C0 (Dw a.ids b.ids (Z.a 3) (Z.a 1)) Z fun w Z=>?_
 cases ae:(a.ids==b.ids)
 ·exact .r 8<|.d<|T.rt func75 results75 (.bool false) ⟨(AG (by cases a; cases b; grind)),Z.xt⟩
 exact .r 2<|RG.Lb 1 Z<|.r 1<|RG.Lb 0 Z<|RG.C0 (Hh a.blocks b.blocks (Z.a 2) (Z.a 0)) Z fun w Z=>.r 2<|.d<|T.rt func75 results75 (.bool (a.blocks==b.blocks)) ⟨(AG (by cases a; cases b; grind)),Z.xt⟩
theorem IV (s1:List Prt) (s2:List Prt) (h1:RepS w F a1 n1 c1 s1) (h2:RepS w F a2 n2 c2 s2)  : Calls Tryz.prog 74 [.slice a1 n1 c1,.slice a2 n2 c2,.func (.func 75) #[] #[]].toArray w (Am fun rv w'=>rv=.bool ((s1==s2))∧Ext w w'):=by
 cases h1.len
 cases h2.len
 refine goT func74 ?_
 have Z:=((St.i0 F w).p h1).p h2
 have aj:=h1.max
 refine .s<|.g<|.r 1<|.d<|.s<|.s<|.g<|.r 4<|.ne (s1.length:Int) (s2.length:Int) (fun ac=>.d<|.ct<|.s<|.g<|.r 1<|.d<|T.rt func74 results74 (.bool false) ⟨(AG (by grind [Ab])),Z.xt⟩) fun ac=>.d<|.cf<|.sk<|.s<|.s<|.g<|.r 3<|.d<|.b 0<|T.Lp (0:Nat) (fun k=>([(1,.slice a2 s2.length c2),(2,.func (.func 75) #[] #[]),(15,.slice a1 s1.length c1),(16,vI (s1.length:Int)),(17,vI (k:Int))],[],[],s1.length - k,(k≤s1.length)∧(s1.drop k=s2.drop k↔s1=s2))) [] Z ⟨AD,AD⟩ ?_
 rintro k au w Z ⟨al,am⟩ ab
 refine .s<|.g<|.bp ((k:Int)< (s1.length:Int)) (fun ae=>?_) (fun ae=>.d<|.s<|.cf<|.x 0 rfl<|.s<|.g<|.r 1<|.d<|T.rt func74 results74 (.bool true) ⟨(AG (by grind [Ab])),Z.xt⟩)
 refine .d<|.s<|.ct<|.sk<|.s<|.b 1<|.s<|.g<|.r 1<|gxd s1 k fun af E ao=>RG.Ix 1 E Z<|Z.el 1 E fun ax ay az aA Z=>RG.Lg 0 0 Z<|RG.Np Z fun aB w Z=>.r 1<|RG.Ss 0 Z fun w Z=>.d<|.s<|.g<|.r 2<|gxd s2 k fun ag aa aq=>RG.Ix 3 aa Z<|Z.el 3 aa fun aC aD aE aF Z=>RG.Lg 0 0 Z<|RG.Np Z fun aG w Z=>RG.Ss 0 Z fun w Z=>.d<|.s<|.g<|.r 1<|RG.Ln 1 Z<|RG.Ln 0 Z<|RG.C0 (Jv af ag (Z.a 4) (Z.a 5) (Z.a 1) (Z.a 2)) Z fun w Z=>?_
 cases ar:(af==ag)
 ·exact .r 1<|.d<|.ct<|.s<|.g<|.r 1<|.d<|T.rt func74 results74 (.bool false) ⟨(AG (by grind [Ab])),Z.xt⟩
 exact .r 1<|.d<|.cf<|.sk<|.ib 1<|.g<|.it ((k:Int)+1)<|.r 1<|.d<|ab (k+1) _ _ AA (Z.to 2 [] 6) ⟨AB,(by grind)⟩ (by (simp only []; omega))
theorem Fj (d:Dsk) (h1:RepS w F a1 n1 c1 d.files) (h2:RepS w F a2 n2 c2 d.list) (h3:RepS w F a3 n3 c3 d.names)  : Calls Tryz.prog 97 [.agg #[.slice a1 n1 c1,.slice a2 n2 c2,.slice a3 n3 c3,.int .i64 d.next]].toArray w (Am fun rv w'=>rv=.bool (Eh d)∧Ext w w'):=by
 cases h1.len
 cases h2.len
 cases h3.len
 refine goT func97 ?_
 have Z:=(((St.i0 F w).p h1).p h2).p h3
 exact .s<|.g<|RG.Np Z fun ae w Z=>.r 1<|.d<|.s<|.g<|.r 1<|RG.Lb 0 Z<|.eq d.next 999 (fun E=>.r 7<|.d<|T.rt func97 results97 (.bool true) ⟨(AG (by exact SH ‹_›)),Z.xt⟩) fun E=>.r 2<|RG.Lb 0 Z<|.r 4<|.d<|T.rt func97 results97 (.bool ((d.files.length:Int)==20)) ⟨(AG (by exact T0 ‹_›)),Z.xt⟩
theorem Gp (s:Sto) (d:Dsk) (h1:RepS w F a1 n1 c1 s.idx.names) (h2:RepS w F a2 n2 c2 s.idx.AY) (h3:RepS w F a3 n3 c3 s.parts) (h4:RepS w F a4 n4 c4 s.mem) (h5:RepS w F a5 n5 c5 d.files) (h6:RepS w F a6 n6 c6 d.list) (h7:RepS w F a7 n7 c7 d.names) (p0:SG s) (p1:DD d):Calls Tryz.prog 40 [.agg #[.slice a1 n1 c1,.slice a2 n2 c2,.slice a3 n3 c3,.slice a4 n4 c4],.agg #[.slice a5 n5 c5,.slice a6 n6 c6,.slice a7 n7 c7,.int .i64 d.next]].toArray w (Am fun rv w'=>rv=.bool (CZ d s)∧Ext w w'):=by
 cases h1.len
 cases h2.len
 cases h3.len
 cases h4.len
 cases h5.len
 cases h6.len
 cases h7.len
 refine goT func40 ?_
 have Z:=(((((((St.i0 F w).p h1).p h2).p h3).p h4).p h5).p h6).p h7
 have ak:=h7.max
 refine .s<|.g<|RG.Np Z fun ar w Z=>RG.Np Z fun au w Z=>.r 1<|.d<|.s<|.s<|T.Gd 14 Z fun w Z=>GA.Ln 0 1 Z<|GA.C0 1 Z (fun w Z=>Ea s (Z.a 6) (Z.a 5) (Z.a 4) (Z.a 3) p0) ?_
 cases al:(nmB s.idx.names&&Ad s)
 ·exact .r [2,3,4,5,6,7,8]<|GA.Sk Z fun w Z=>.r 3<|.d<|.ct<|.s<|.g<|.r 1<|.d<|T.rt func40 results40 (.bool false) ⟨(AG (by exact VR ‹_›)),Z.xt⟩
 refine .r [2,3]<|GA.Ln 4 0 Z<|GA.C0 5 Z (fun w Z=>C5 d (Z.a 2) (Z.a 1) (Z.a 0) p1) ?_
 cases am:(Az d)
 ·exact .r [6,7,8]<|GA.Sk Z fun w Z=>.r 3<|.d<|.ct<|.s<|.g<|.r 1<|.d<|T.rt func40 results40 (.bool false) ⟨(AG (by exact VQ ‹_›)),Z.xt⟩
 refine .r [6,7,8,9]<|GA.Lb 10 1 Z<|GA.Ln 11 0 Z<|.go 12<|GE.Cg (fun w Z=>EN d (Z.a 2) (Z.a 1) (Z.a 0) p1 (EX (C3 ‹_›).2.2.2)) Z ?_
 rintro w ax w Z ⟨⟨aa,ac,ao⟩,E⟩
 refine ⟨Ext.chg E,?_⟩
 refine GA.vS Z ac E ?_
 intro ay az aA aB aC aD aE aF Z
 refine .r [13]<|GA.Dn Z fun w Z=>RG.C0 (IV s.parts aa.parts (Z.a 8) (Z.a 2)) Z fun w Z=>?_
 cases aq:(s.parts==aa.parts)
 ·exact .r 2<|.d<|.ct<|.s<|.g<|.r 1<|.d<|T.rt func40 results40 (.bool false) ⟨(AG (by exact VU ‹_› ‹_›)),Z.xt⟩
 exact .r 2<|.d<|.cf<|.sk<|.s<|.g<|.r 1<|RG.Lb 0 Z<|.r 2<|.d<|.s<|T.Gd 14 Z fun w Z=>.r [0,1,2]<|GA.Lb 3 1 Z<|.r [4]<|GA.F3 (i:=5) ((d.names.length:Int)≤(s.idx.names.length:Int)) AA (fun ab=>.r [6,7]<|GA.Lb 8 0 Z<|.r [9,10]<|GA.Lb 11 1 Z<|.r [12]<|GA.Sb (hhi:=bdS AA) 13 10 0 d.names.length s.idx.names Z fun aG aH Z=>GA.Dn Z fun w Z=>RG.C0 (IU d.names ((s.idx.names.take d.names.length).drop 0) (Z.a 5) (Z.a 0)) Z fun w Z=>.r 2<|.d<|T.rt func40 results40 (.bool (d.names==((s.idx.names.take d.names.length).drop 0))) ⟨(AG (by exact VX ‹_› ‹_› ‹_› ‹_› AD)),Z.xt⟩) fun ab=>.r [6]<|GA.Sk Z fun w Z=>.r 3<|.d<|T.rt func40 results40 (.bool false) ⟨(AG (by exact VW ‹_›)),Z.xt⟩
theorem IW (d:Dsk) (s:Sto) (h1:RepS w F a1 n1 c1 d.files) (h2:RepS w F a2 n2 c2 d.list) (h3:RepS w F a3 n3 c3 d.names) (h4:RepS w F a4 n4 c4 s.idx.names) (h5:RepS w F a5 n5 c5 s.idx.AY) (h6:RepS w F a6 n6 c6 s.parts) (h7:RepS w F a7 n7 c7 s.mem) (p0:DD d) (p1:SG s):Calls Tryz.prog 55 [.agg #[.slice a1 n1 c1,.slice a2 n2 c2,.slice a3 n3 c3,.int .i64 d.next],.agg #[.slice a4 n4 c4,.slice a5 n5 c5,.slice a6 n6 c6,.slice a7 n7 c7]].toArray w (Am fun rv w'=>VL (ge w.heap.size) w' (Ag d s:List Stp) rv∧Ext w w'):=by
 cases h1.len
 cases h2.len
 cases h3.len
 cases h4.len
 cases h5.len
 cases h6.len
 cases h7.len
 refine goT func55 ?_
 have Z:=(((((((St.i0 F w).p h1).p h2).p h3).p h4).p h5).p h6).p h7
 have af:=h2.max
 have ah:=h4.max
 have ak:=h7.max
 refine .s<|.g<|RG.Np Z fun ab w Z=>RG.Np Z fun ac w Z=>.r 1<|.d<|.s<|.s<|.g<|RG.Ln 0 Z<|RG.Ln 1 Z<|RG.C0 (Gp s d (Z.a 3) (Z.a 2) (Z.a 1) (Z.a 0) (Z.a 6) (Z.a 5) (Z.a 4) p1 p0) Z fun w Z=>?_
 cases al:(CZ d s)
 ·exact .r 17<|.d<|.ct<|.s<|.g<|RG.N0 Stp 0 Z fun ba w Z=>.r 1<|.d<|T.Rt func55 results55 ⟨Z.rM 0 ([]:List Stp) (by exact WO ‹_›),Z.xt⟩
 refine .r 3<|RG.Lb 0 Z<|.r 1<|.eq (s.mem.length:Int) 0 (fun E=>.r 11<|.d<|.ct<|.s<|.g<|RG.N0 Stp 0 Z fun bd w Z=>.r 1<|.d<|T.Rt func55 results55 ⟨Z.rM 0 ([]:List Stp) (by exact VY (.inl ‹_›)),Z.xt⟩) fun E=>.r 3<|RG.Lb 1 Z<|.r 1<|.eq (d.list.length:Int) 6 (fun aa=>.r 5<|.d<|.ct<|.s<|.g<|RG.N0 Stp 0 Z fun bg w Z=>.r 1<|.d<|T.Rt func55 results55 ⟨Z.rM 0 ([]:List Stp) (by exact VY (.inr (.inl ‹_›))),Z.xt⟩) fun aa=>.r 2<|RG.Ln 1 Z<|RG.C0 (Fj d (Z.a 6) (Z.a 5) (Z.a 4)) Z fun w Z=>?_
 cases am:(Eh d)
 ·refine .r 1<|.d<|.cf<|.sk<|.s<|T.GS 18 [ac,ab] Z fun _ w Z=>.r [0]<|GA.Lb (q:=1) 1 1 Z<|GA.Ln 2 0 Z<|.r [6]<|GA.Lb (q:=1) 7 1 Z<|.r [9]<|GA.Lb (q:=1) 10 1 Z<|.r [13,14]<|GA.Lb 15 0 Z<|GE.many [3,5,11] AA (all_cons ?_ (all_cons ?_ (all_cons ?_ all_nil)))
  ·refine GE.CS (fun w Z=>Bu s (Z.a 3) (Z.a 2) (Z.a 1) (Z.a 0) (StoK.of (C6 p1 ‹_›) (C9 ‹_›).sk).row (StoK.of (C6 p1 ‹_›) (C9 ‹_›).sk).Kh.Is (by have:=p1.nm2; omega)) Z fun bh bi bj bk w Z=>.r [4]<|.tw 5 11 ?_ ?_
   ·refine GE.N0 Int 0 Z fun bm w Z=>.tw 8 11 ?_ ?_
    ·exact GE.An (hs:=by (simp only [List.nil_append,List.length_nil,List.length_append,List.length_cons] <;> exact (by have:=p0.nl; omega))) (hf:=.inr Ay) 0 7 ([]:List Int) d.list [1,2] Z fun bn bo w Z=>.go 11<|GE.Nb 1 Z fun bq w Z=>.go 12<|GE.Ap (hs:=by (simp only [List.nil_append,List.length_nil,List.length_append,List.length_cons] <;> exact (by have:=p0.nl; omega))) 0 0 ([]++d.list) d.next [] [1,2] Z fun br bt w Z=>.go 16<|GE.CO 0 (fun w Z=>Af s.idx.names (Z.a 5) (by have:=p1.ix.g.len; omega) (by (intro n hn; have:=(p1.ix.g.sz n hn).1; omega))) Z fun bu bv w Z=>.r [17]<|GA.Do Z fun w Z=>RG.Nl 0 ([(⟨1,d.next,(⟨(Aj s.mem).ids,(Aj s.mem).blocks⟩:Prt),([]:List Int),([]:List (List Tag))⟩:Stp),(⟨2,0,(⟨([]:List Int),([]:List (List Row))⟩:Prt),(([]++d.list)++[d.next]),s.idx.names⟩:Stp)]:List Stp) [[6,7,5,4],[1,0,3,2]] ((((((Z.nl Int).nl (List Tag)).sl 1).sl 0).nl Int).nl (List Row)) fun bw w Z=>.r 1<|.d<|T.Rt func55 results55 ⟨Z.rM 0 ([(⟨1,d.next,(⟨(Aj s.mem).ids,(Aj s.mem).blocks⟩:Prt),([]:List Int),([]:List (List Tag))⟩:Stp),(⟨2,0,(⟨([]:List Int),([]:List (List Row))⟩:Prt),(([]++d.list)++[d.next]),s.idx.names⟩:Stp)]:List Stp) (by exact Nt ‹_› ‹_› ‹_› ‹_› p0),Z.xt⟩
    exact GE.Nb 1 Z fun bz w Z=>.go 8<|GE.An (hs:=by (simp only [List.nil_append,List.length_nil,List.length_append,List.length_cons] <;> exact (by have:=p0.nl; omega))) (hf:=.inr Ay) 1 7 ([]:List Int) d.list [2,3] Z fun bA bB w Z=>.go 12<|GE.Ap (hs:=by (simp only [List.nil_append,List.length_nil,List.length_append,List.length_cons] <;> exact (by have:=p0.nl; omega))) 0 0 ([]++d.list) d.next [] [1,2] Z fun bC bD w Z=>.go 16<|GE.CO 0 (fun w Z=>Af s.idx.names (Z.a 5) (by have:=p1.ix.g.len; omega) (by (intro n hn; have:=(p1.ix.g.sz n hn).1; omega))) Z fun bE bF w Z=>.r [17]<|GA.Do Z fun w Z=>RG.Nl 0 ([(⟨1,d.next,(⟨(Aj s.mem).ids,(Aj s.mem).blocks⟩:Prt),([]:List Int),([]:List (List Tag))⟩:Stp),(⟨2,0,(⟨([]:List Int),([]:List (List Row))⟩:Prt),(([]++d.list)++[d.next]),s.idx.names⟩:Stp)]:List Stp) [[6,7,5,4],[1,0,3,2]] ((((((Z.nl Int).nl (List Tag)).sl 1).sl 0).nl Int).nl (List Row)) fun bG w Z=>.r 1<|.d<|T.Rt func55 results55 ⟨Z.rM 0 ([(⟨1,d.next,(⟨(Aj s.mem).ids,(Aj s.mem).blocks⟩:Prt),([]:List Int),([]:List (List Tag))⟩:Stp),(⟨2,0,(⟨([]:List Int),([]:List (List Row))⟩:Prt),(([]++d.list)++[d.next]),s.idx.names⟩:Stp)]:List Stp) (by exact Nt ‹_› ‹_› ‹_› ‹_› p0),Z.xt⟩
   exact GE.Nb 1 Z fun bH w Z=>.go 5<|GE.N0 Int 0 Z fun bI w Z=>.go 8<|GE.An (hs:=by (simp only [List.nil_append,List.length_nil,List.length_append,List.length_cons] <;> exact (by have:=p0.nl; omega))) (hf:=.inr Ay) 0 7 ([]:List Int) d.list [2,3] Z fun bJ bK w Z=>.go 12<|GE.Ap (hs:=by (simp only [List.nil_append,List.length_nil,List.length_append,List.length_cons] <;> exact (by have:=p0.nl; omega))) 0 1 ([]++d.list) d.next [] [1,2] Z fun bL bM w Z=>.go 16<|GE.CO 0 (fun w Z=>Af s.idx.names (Z.a 5) (by have:=p1.ix.g.len; omega) (by (intro n hn; have:=(p1.ix.g.sz n hn).1; omega))) Z fun bN bO w Z=>.r [17]<|GA.Do Z fun w Z=>RG.Nl 0 ([(⟨1,d.next,(⟨(Aj s.mem).ids,(Aj s.mem).blocks⟩:Prt),([]:List Int),([]:List (List Tag))⟩:Stp),(⟨2,0,(⟨([]:List Int),([]:List (List Row))⟩:Prt),(([]++d.list)++[d.next]),s.idx.names⟩:Stp)]:List Stp) [[6,7,5,4],[1,0,3,2]] ((((((Z.nl Int).nl (List Tag)).sl 1).sl 0).nl Int).nl (List Row)) fun bP w Z=>.r 1<|.d<|T.Rt func55 results55 ⟨Z.rM 0 ([(⟨1,d.next,(⟨(Aj s.mem).ids,(Aj s.mem).blocks⟩:Prt),([]:List Int),([]:List (List Tag))⟩:Stp),(⟨2,0,(⟨([]:List Int),([]:List (List Row))⟩:Prt),(([]++d.list)++[d.next]),s.idx.names⟩:Stp)]:List Stp) (by exact Nt ‹_› ‹_› ‹_› ‹_› p0),Z.xt⟩
  ·refine GE.N0 Int 0 Z fun bQ w Z=>.tw 3 11 ?_ ?_
   ·refine GE.CS (fun w Z=>Bu s (Z.a 3) (Z.a 2) (Z.a 1) (Z.a 0) (StoK.of (C6 p1 ‹_›) (C9 ‹_›).sk).row (StoK.of (C6 p1 ‹_›) (C9 ‹_›).sk).Kh.Is (by have:=p1.nm2; omega)) Z fun bR bS bT bU w Z=>.r [4]<|.tw 8 11 ?_ ?_
    ·exact GE.An (hs:=by (simp only [List.nil_append,List.length_nil,List.length_append,List.length_cons] <;> exact (by have:=p0.nl; omega))) (hf:=.inr Ay) 0 7 ([]:List Int) d.list [1,2] Z fun bV bW w Z=>.go 11<|GE.Nb 1 Z fun bX w Z=>.go 12<|GE.Ap (hs:=by (simp only [List.nil_append,List.length_nil,List.length_append,List.length_cons] <;> exact (by have:=p0.nl; omega))) 0 0 ([]++d.list) d.next [] [1,2] Z fun bY bZ w Z=>.go 16<|GE.CO 0 (fun w Z=>Af s.idx.names (Z.a 5) (by have:=p1.ix.g.len; omega) (by (intro n hn; have:=(p1.ix.g.sz n hn).1; omega))) Z fun b0 b6 w Z=>.r [17]<|GA.Do Z fun w Z=>RG.Nl 0 ([(⟨1,d.next,(⟨(Aj s.mem).ids,(Aj s.mem).blocks⟩:Prt),([]:List Int),([]:List (List Tag))⟩:Stp),(⟨2,0,(⟨([]:List Int),([]:List (List Row))⟩:Prt),(([]++d.list)++[d.next]),s.idx.names⟩:Stp)]:List Stp) [[6,7,5,4],[1,0,3,2]] ((((((Z.nl Int).nl (List Tag)).sl 1).sl 0).nl Int).nl (List Row)) fun b7 w Z=>.r 1<|.d<|T.Rt func55 results55 ⟨Z.rM 0 ([(⟨1,d.next,(⟨(Aj s.mem).ids,(Aj s.mem).blocks⟩:Prt),([]:List Int),([]:List (List Tag))⟩:Stp),(⟨2,0,(⟨([]:List Int),([]:List (List Row))⟩:Prt),(([]++d.list)++[d.next]),s.idx.names⟩:Stp)]:List Stp) (by exact Nt ‹_› ‹_› ‹_› ‹_› p0),Z.xt⟩
    exact GE.Nb 1 Z fun b8 w Z=>.go 8<|GE.An (hs:=by (simp only [List.nil_append,List.length_nil,List.length_append,List.length_cons] <;> exact (by have:=p0.nl; omega))) (hf:=.inr Ay) 1 7 ([]:List Int) d.list [2,3] Z fun b9 cd w Z=>.go 12<|GE.Ap (hs:=by (simp only [List.nil_append,List.length_nil,List.length_append,List.length_cons] <;> exact (by have:=p0.nl; omega))) 0 0 ([]++d.list) d.next [] [1,2] Z fun ce cg w Z=>.go 16<|GE.CO 0 (fun w Z=>Af s.idx.names (Z.a 5) (by have:=p1.ix.g.len; omega) (by (intro n hn; have:=(p1.ix.g.sz n hn).1; omega))) Z fun ci cj w Z=>.r [17]<|GA.Do Z fun w Z=>RG.Nl 0 ([(⟨1,d.next,(⟨(Aj s.mem).ids,(Aj s.mem).blocks⟩:Prt),([]:List Int),([]:List (List Tag))⟩:Stp),(⟨2,0,(⟨([]:List Int),([]:List (List Row))⟩:Prt),(([]++d.list)++[d.next]),s.idx.names⟩:Stp)]:List Stp) [[6,7,5,4],[1,0,3,2]] ((((((Z.nl Int).nl (List Tag)).sl 1).sl 0).nl Int).nl (List Row)) fun ck w Z=>.r 1<|.d<|T.Rt func55 results55 ⟨Z.rM 0 ([(⟨1,d.next,(⟨(Aj s.mem).ids,(Aj s.mem).blocks⟩:Prt),([]:List Int),([]:List (List Tag))⟩:Stp),(⟨2,0,(⟨([]:List Int),([]:List (List Row))⟩:Prt),(([]++d.list)++[d.next]),s.idx.names⟩:Stp)]:List Stp) (by exact Nt ‹_› ‹_› ‹_› ‹_› p0),Z.xt⟩
   exact GE.Nb 1 Z fun cm w Z=>.go 3<|GE.CS (fun w Z=>Bu s (Z.a 3) (Z.a 2) (Z.a 1) (Z.a 0) (StoK.of (C6 p1 ‹_›) (C9 ‹_›).sk).row (StoK.of (C6 p1 ‹_›) (C9 ‹_›).sk).Kh.Is (by have:=p1.nm2; omega)) Z fun co cp cq cr w Z=>.r [4]<|.go 8<|GE.An (hs:=by (simp only [List.nil_append,List.length_nil,List.length_append,List.length_cons] <;> exact (by have:=p0.nl; omega))) (hf:=.inr Ay) 1 7 ([]:List Int) d.list [2,3] Z fun ao aq w Z=>.go 12<|GE.Ap (hs:=by (simp only [List.nil_append,List.length_nil,List.length_append,List.length_cons] <;> exact (by have:=p0.nl; omega))) 0 0 ([]++d.list) d.next [] [1,2] Z fun ar au w Z=>.go 16<|GE.CO 0 (fun w Z=>Af s.idx.names (Z.a 5) (by have:=p1.ix.g.len; omega) (by (intro n hn; have:=(p1.ix.g.sz n hn).1; omega))) Z fun ax ay w Z=>.r [17]<|GA.Do Z fun w Z=>RG.Nl 0 ([(⟨1,d.next,(⟨(Aj s.mem).ids,(Aj s.mem).blocks⟩:Prt),([]:List Int),([]:List (List Tag))⟩:Stp),(⟨2,0,(⟨([]:List Int),([]:List (List Row))⟩:Prt),(([]++d.list)++[d.next]),s.idx.names⟩:Stp)]:List Stp) [[6,7,5,4],[1,0,3,2]] ((((((Z.nl Int).nl (List Tag)).sl 1).sl 0).nl Int).nl (List Row)) fun az w Z=>.r 1<|.d<|T.Rt func55 results55 ⟨Z.rM 0 ([(⟨1,d.next,(⟨(Aj s.mem).ids,(Aj s.mem).blocks⟩:Prt),([]:List Int),([]:List (List Tag))⟩:Stp),(⟨2,0,(⟨([]:List Int),([]:List (List Row))⟩:Prt),(([]++d.list)++[d.next]),s.idx.names⟩:Stp)]:List Stp) (by exact Nt ‹_› ‹_› ‹_› ‹_› p0),Z.xt⟩
  refine GE.Nb 1 Z fun aA w Z=>.tw 3 5 ?_ ?_
  ·exact GE.CS (fun w Z=>Bu s (Z.a 3) (Z.a 2) (Z.a 1) (Z.a 0) (StoK.of (C6 p1 ‹_›) (C9 ‹_›).sk).row (StoK.of (C6 p1 ‹_›) (C9 ‹_›).sk).Kh.Is (by have:=p1.nm2; omega)) Z fun aB aC aD aE w Z=>.r [4]<|.go 5<|GE.N0 Int 0 Z fun aF w Z=>.go 8<|GE.An (hs:=by (simp only [List.nil_append,List.length_nil,List.length_append,List.length_cons] <;> exact (by have:=p0.nl; omega))) (hf:=.inr Ay) 0 7 ([]:List Int) d.list [2,3] Z fun aG aH w Z=>.go 12<|GE.Ap (hs:=by (simp only [List.nil_append,List.length_nil,List.length_append,List.length_cons] <;> exact (by have:=p0.nl; omega))) 0 1 ([]++d.list) d.next [] [1,2] Z fun aI aJ w Z=>.go 16<|GE.CO 0 (fun w Z=>Af s.idx.names (Z.a 5) (by have:=p1.ix.g.len; omega) (by (intro n hn; have:=(p1.ix.g.sz n hn).1; omega))) Z fun aK aL w Z=>.r [17]<|GA.Do Z fun w Z=>RG.Nl 0 ([(⟨1,d.next,(⟨(Aj s.mem).ids,(Aj s.mem).blocks⟩:Prt),([]:List Int),([]:List (List Tag))⟩:Stp),(⟨2,0,(⟨([]:List Int),([]:List (List Row))⟩:Prt),(([]++d.list)++[d.next]),s.idx.names⟩:Stp)]:List Stp) [[6,7,5,4],[1,0,3,2]] ((((((Z.nl Int).nl (List Tag)).sl 1).sl 0).nl Int).nl (List Row)) fun aM w Z=>.r 1<|.d<|T.Rt func55 results55 ⟨Z.rM 0 ([(⟨1,d.next,(⟨(Aj s.mem).ids,(Aj s.mem).blocks⟩:Prt),([]:List Int),([]:List (List Tag))⟩:Stp),(⟨2,0,(⟨([]:List Int),([]:List (List Row))⟩:Prt),(([]++d.list)++[d.next]),s.idx.names⟩:Stp)]:List Stp) (by exact Nt ‹_› ‹_› ‹_› ‹_› p0),Z.xt⟩
  exact GE.N0 Int 0 Z fun aN w Z=>.go 3<|GE.CS (fun w Z=>Bu s (Z.a 3) (Z.a 2) (Z.a 1) (Z.a 0) (StoK.of (C6 p1 ‹_›) (C9 ‹_›).sk).row (StoK.of (C6 p1 ‹_›) (C9 ‹_›).sk).Kh.Is (by have:=p1.nm2; omega)) Z fun aO aP aQ aR w Z=>.r [4]<|.go 8<|GE.An (hs:=by (simp only [List.nil_append,List.length_nil,List.length_append,List.length_cons] <;> exact (by have:=p0.nl; omega))) (hf:=.inr Ay) 0 7 ([]:List Int) d.list [2,3] Z fun aS aT w Z=>.go 12<|GE.Ap (hs:=by (simp only [List.nil_append,List.length_nil,List.length_append,List.length_cons] <;> exact (by have:=p0.nl; omega))) 0 1 ([]++d.list) d.next [] [1,2] Z fun aU aV w Z=>.go 16<|GE.CO 0 (fun w Z=>Af s.idx.names (Z.a 5) (by have:=p1.ix.g.len; omega) (by (intro n hn; have:=(p1.ix.g.sz n hn).1; omega))) Z fun aW aX w Z=>.r [17]<|GA.Do Z fun w Z=>RG.Nl 0 ([(⟨1,d.next,(⟨(Aj s.mem).ids,(Aj s.mem).blocks⟩:Prt),([]:List Int),([]:List (List Tag))⟩:Stp),(⟨2,0,(⟨([]:List Int),([]:List (List Row))⟩:Prt),(([]++d.list)++[d.next]),s.idx.names⟩:Stp)]:List Stp) [[6,7,5,4],[1,0,3,2]] ((((((Z.nl Int).nl (List Tag)).sl 1).sl 0).nl Int).nl (List Row)) fun aY w Z=>.r 1<|.d<|T.Rt func55 results55 ⟨Z.rM 0 ([(⟨1,d.next,(⟨(Aj s.mem).ids,(Aj s.mem).blocks⟩:Prt),([]:List Int),([]:List (List Tag))⟩:Stp),(⟨2,0,(⟨([]:List Int),([]:List (List Row))⟩:Prt),(([]++d.list)++[d.next]),s.idx.names⟩:Stp)]:List Stp) (by exact Nt ‹_› ‹_› ‹_› ‹_› p0),Z.xt⟩
 exact .r 1<|.d<|.ct<|.s<|.g<|RG.N0 Stp 0 Z fun aZ w Z=>.r 1<|.d<|T.Rt func55 results55 ⟨Z.rM 0 ([]:List Stp) (by exact VY (.inr (.inr ‹_›))),Z.xt⟩
end Go.Proofs.YtggnnidleedpaaaGreat
namespace Go.Proofs.YtggnnidleedpaaaGreat
theorem WQ {α:Type}[BEq α] [LawfulBEq α] {a b:List α}{k:Nat}{x y:α}(h:a.drop k=b.drop k↔a=b) (ha:a.drop k=x::a.drop (k+1)) (hb:b.drop k=y::b.drop (k+1)) (e:(x==y)=true):a.drop (k+1)=b.drop (k+1)↔a=b:=by
 rw [← h,ha,hb,eq_of_beq e]
 simp
theorem WR {α:Type}[BEq α] [LawfulBEq α] {a b:List α}{k:Nat}{x y:α}(h:a.drop k=b.drop k↔a=b) (ha:a.drop k=x::a.drop (k+1)) (hb:b.drop k=y::b.drop (k+1)) (e:(x==y)=false):a≠b:=fun e2=>by
 have:=h.2 e2
 rw [ha,hb,List.cons.injEq] at this
 exact beq_eq_false_iff_ne.1 e this.1
end Go.Proofs.YtggnnidleedpaaaGreat
namespace Go.Proofs.YtggnnidleedpaaaGreat
section
variable {α:Type} [Rep α] {w:World} {G F:Nat→Prop} {M ML M2:List Nat} {o:Option Addr} {n c r s b x:Nat} {t:TypeId} {xs:List α}
theorem RepS.IY (h:RepS w (nin F M) o n c xs):RepS w (nin (fo F s) M) o n c xs:=h.Bn fun _ _ hF=>⟨.inl hF.1,hF.2⟩
theorem RepS.toM (h:RepS w (nin G M) o n c xs) (hs:∀ b∈ML,b∈M):RepS w (nin (nin G M) ML) o n c xs:=h.Bn fun k _ hk=>⟨hk,fun e=>hk.2 (hs k e)⟩
theorem Own.toM (h:Own w r t (nin G M) n c xs) (hs:∀ b∈ML,b∈M):Own w r t (nin (nin G M) ML) n c xs:=h.Bn fun k _ hk=>⟨hk,fun e=>hk.2 (hs k e)⟩
theorem Cov.mkI {L:List Nat}(h:b∈L):Cov (ins L) w b:=⟨.inl h⟩
theorem JI (h:Cov (ins [b,r]) w x) (hn:Nb x b):OrB x r w.heap.size:=by
 rcases h.or with h | h
 ·have h2:x∈[b,r]:=h
  rcases List.mem_cons.1 h2 with rfl | h2
  ·exact absurd rfl hn.ne
  ·simp at h2
   exact .inl h2
 ·exact .inr h
theorem SI {k:Nat}(h:nin (fo (nin G M) s) ML k) (hM:∀ b∈M,b< s) (hG:∀ b,s≤b→G b) (h2:∀ b∈M2,b∈ML∨b∈M):nin G M2 k:=by
 refine ⟨?_,fun hm=>?_⟩
 ·rcases h.1 with h1 | h1
  ·exact h1.1
  ·exact hG _ h1
 ·rcases h2 k hm with h3 | h3
  ·exact h.2 h3
  ·rcases h.1 with h1 | h1
   ·exact h1.2 h3
   ·have:=hM k h3; omega
theorem RepS.bxM (h:RepS w (nin (fo (nin G M) s) ML) o n c xs) (hM:∀ b∈M,b< s) (hG:∀ b,s≤b→G b) (h2:∀ b∈M2,b∈ML∨b∈M):RepS w (nin G M2) o n c xs:=h.Bn fun _ _ hk=>SI hk hM hG h2
theorem Own.bxM (h:Own w r t (nin (fo (nin G M) s) ML) n c xs) (hM:∀ b∈M,b< s) (hG:∀ b,s≤b→G b) (h2:∀ b∈M2,b∈ML∨b∈M):Own w r t (nin G M2) n c xs:=h.Bn fun _ _ hk=>SI hk hM hG h2
end
theorem Own.Wu {w:World}{r:Nat}{t:TypeId}{F:Nat→Prop}{n c i:Nat}{xs:List Fil}{cs:List Value}(h:Own w r t F n c xs) (hB:Box w r t cs):∀ v,i+(n - i)≤n→v∈(cs.drop (i * 3)).take ((n - i) * 3)→Go.Proofs.YtggnnidleedpaaaGreat.DP v=true:=by
 intro v hin hv
 obtain ⟨k,hk⟩:=List.mem_iff_getElem?.1 hv
 rw [List.getElem?_take] at hk
 split at hk
 ·rename_i hlt
  rw [List.getElem?_drop] at hk
  have hn:=h.len
  have hj:i+k / 3< xs.length:=by omega
  obtain ⟨c1,g1,g2⟩:=h.elem (i+k / 3) xs[i+k / 3] (AU hj)
  have hl:c1.length=3:=Rep.len g1
  have hk2:k % 3< c1.length:=by omega
  have h3:=g2 (k % 3) c1[k % 3] (AU hk2)
  have hz:Rep.sz Fil=3:=rfl
  unfold Box at hB
  rw [add_lit,hz] at h3
  simp only [World.cell?,hB] at h3
  have e:(i+k / 3) * 3+k % 3=i * 3+k:=by omega
  rw [e] at h3
  have h4:cs[i * 3+k]? = some c1[k % 3]:=by simpa using h3
  rw [hk] at h4
  cases h4
  exact Rep.flat g1 _ (List.getElem_mem hk2)
 ·cases hk
theorem SJ {P:Program}{T ty t:TypeId}{sz:Nat}{w:World}{r o c m:Nat}{cs:List Value}(hT:Tt P T t sz=true) (hB:Box w r t cs) (hm:0< m) (hfit:o+m * sz≤cs.length) :
 ∃ vs w',(Builtin.clear_ #[T] ty #[.slice (some ⟨r,o,none⟩) m c]).run P w=.ok (.tuple #[]) w'∧vs.length=m * sz∧Box w' r t (BB cs o vs)∧Chg (one r) w w':=by
 unfold Tt at hT
 simp only [AW] at hT
 obtain ⟨h1,h2⟩:=hT
 split at h1
 ·rename_i e he
  have:=Nat.eq_of_beq_eq_true h1
  subst this
  split at h2
  ·rename_i inf hinf
   split at h2
   ·rename_i z hz
    simp only [AW,List.all_eq_true] at h2
    have hsz:=Nat.eq_of_beq_eq_true h2.1
    have hl:(Builtin.zeroCells z.cells m).toList.length=m * sz:=by rw [Array.length_toList,size_zeroCells,hsz]
    have ho:∀ v∈(Builtin.zeroCells z.cells m).toList,DP v=true:=fun v hv=>by
     unfold Builtin.zeroCells at hv
     simp only [Array.toList_map,List.mem_map,Array.toList_range,List.mem_range] at hv
     obtain ⟨k,hk,rfl⟩:=hv
     have hk2:k % z.cells.size< z.cells.size:=Nat.mod_lt _ (Nat.pos_of_ne_zero (fun e=>by rw [e,Nat.mul_zero] at hk; omega))
     refine h2.2 _ ?_
     rw [getElem!_pos z.cells _ hk2]
     exact Array.getElem_mem_toList hk2
    obtain ⟨w',g1,g2,g3,_⟩:=hB.L5 (P:=P) (Builtin.zeroCells z.cells m).toList (o:=o) (i:=0) AB ho
    refine ⟨_,w',?_,hl,g2,g3⟩
    have hv:(zeroValue e).run P w=.ok z w:=by simp [zeroValue,typeInfo,hinf,hz,go_sem]
    unfold Builtin.clear_
    simp only [List.getElem?_toArray,List.getElem?_cons_zero]
    rw [AX (run_underlying he w)]
    obtain ⟨m',rfl⟩:∃ k,m=k+1:=⟨m - 1,by omega⟩
    simp only []
    rw [AX hv,AX g1]
    rfl
   ·cases h2
  ·cases h2
 ·cases h1
theorem Own.VZ {α:Type}[Rep α] {w w':World}{r:Nat}{t:TypeId}{F:Nat→Prop}{n c i:Nat}{xs:List α}{cs cs':List Value}(h:Own w r t F n c xs) (hx:Chg (one r) w w') (hB:Box w r t cs) (hB':Box w' r t cs') (hl:cs'.length=c * Rep.sz α) (hi:i≤n)
 (hp:∀ p,p< i * Rep.sz α→cs'[p]? = cs[p]?):Own w' r t F i c (xs.take i):=by
 have hn:=h.len
 have hle:=h.le
 have hcap:=h.cap
 unfold Box at hB hB'
 refine ⟨by rw [List.length_take]; omega,by omega,hcap,⟨cs'.toArray,hB',by simpa using hl⟩,fun k x hk=>?_⟩
 have hfr:∀ b,b< w.heap.size→F b∧b≠r→(F b∧b≠r)∧w'.heap[b]? = w.heap[b]? := fun b hb hF=>⟨hF,hx.block b hb (fun e=>hF.2 e)⟩
 rw [List.getElem?_take] at hk
 split at hk
 ·rename_i hki
  obtain ⟨c1,g1,g2⟩:=h.elem k x hk
  refine ⟨c1,Rep.frame g1 hfr,fun u v hv=>?_⟩
  have h3:=g2 u v hv
  have hu:u< Rep.sz α:=by have:=(List.getElem?_eq_some_iff.1 hv).1; rw [Rep.len g1] at this; exact this
  have hm:k * Rep.sz α+Rep.sz α≤i * Rep.sz α:=by rw [← Nat.succ_mul]; exact Nat.mul_le_mul_right _ hki
  rw [add_lit] at h3 ⊢
  simp only [World.cell?,hB] at h3
  simp only [World.cell?,hB']
  have:=hp (k * Rep.sz α+u) AB
  simpa [this] using h3
 ·cases hk
theorem QV {cs v:List Value}{i p:Nat}(hp:p< i) (hi:i≤cs.length):(BB cs i v)[p]? = cs[p]? := by
 unfold BB
 rw [List.append_assoc,List.getElem?_append_left (by rw [List.length_take]; omega),List.getElem?_take,if_pos hp]
end Go.Proofs.YtggnnidleedpaaaGreat
namespace Go.Proofs.YtggnnidleedpaaaGreat
def WS:Dsk:=⟨[],[],[],0⟩
def Ak (d:Dsk) (st:List Stp) (c:Int):Dsk:=if Az d=true∧0≤c∧Az (toD d st c)=true then toD d st c else WS
def CH (d:Dsk):Dsk:=if Az d then BE d else WS
def Ah (d:Dsk) (a:Int):List Stp:=if Az d then Ao d a else []
theorem EA {d:Dsk}{a:Int}(h:Az d=true):Ah d a=Ao d a:=by unfold Ah; rw [if_pos h]
theorem Nu {d:Dsk}{a:Int}(h:Az d=false):Ah d a=[]:=by unfold Ah; rw [if_neg (by simp [h])]
structure StW (d:Dsk) (st:List Stp):Prop where
 len:st.length≤4
 sz:∀ x∈st,JR x
 pt:∀ x∈st,Cv x.part
 ok:∀ k:Nat,DD ((st.take k).foldl doD d)
theorem DD.Uc {d:Dsk}(h:DD d){x:Stp}(hk:x.kind=1) (hf:d.files.length< 20) (hn:0≤x.num∧x.num≤998) (hp:PrtI x.part):DD (doD d x):=by
 rw [Ee hk]
 refine ⟨h.g,h.nl,by simp; omega,fun f hf=>?_,by show 0≤x.num+1∧x.num+1≤999; omega⟩
 rcases List.mem_append.1 hf with hf | hf
 ·exact h.file f hf
 ·simp at hf; subst hf; exact hp
theorem DD.WT {d:Dsk}(h:DD d){x:Stp}(hk:x.kind=2) (hl:x.list.length≤7) (hn:NmG x.names):DD (doD d x):=by
 rw [Ga hk]
 exact ⟨hn,hl,h.nf,h.file,h.next⟩
theorem Gq {d:Dsk}{n:Int}:∀ f∈Dq d n,f∈d.files:=fun f hf=>by
 unfold Dq at hf
 split at hf
 ·rcases List.mem_append.1 hf with hf | hf
  ·exact List.mem_of_mem_take hf
  ·exact List.mem_of_mem_drop hf
 ·exact hf
theorem Kt {d:Dsk}{n:Int}:(Dq d n).length≤d.files.length:=by
 unfold Dq
 split
 ·rw [List.length_append,List.length_take,List.length_drop]; omega
 ·exact Nat.le_refl _
theorem DD.WU {d:Dsk}(h:DD d){x:Stp}(hk:x.kind=3):DD (doD d x):=by
 rw [FA hk]
 exact ⟨h.g,h.nl,Nat.le_trans Kt h.nf,fun f hf=>h.file f (Gq f hf),h.next⟩
theorem SK {d:Dsk}{x:Stp}{xs:List Stp}(h0:DD d) (h:∀ k:Nat,DD ((xs.take k).foldl doD (doD d x))):∀ k:Nat,DD (((x::xs).take k).foldl doD d):=by
 intro k
 cases k with
 | zero=>exact h0
 | succ k=>exact h k
theorem SL {d:Dsk}(h0:DD d):∀ k:Nat,DD ((([]:List Stp).take k).foldl doD d):=by intro k; simpa using h0
theorem StW.nil {d:Dsk}(h:DD d):StW d []:=⟨by simp,by simp,by simp,SL h⟩
theorem IZ {x:Stp}(hl:x.list.length≤7) (hn:x.names.length≤7) (h5:∀ n∈x.names,n.length≤1000) (hx:-9000000≤x.num∧x.num≤9000000):JR x:=⟨by omega,by omega,h5,hx.1,hx.2⟩
theorem SN {ns:List (List Tag)}(h:NmG ns):∀ n∈ns,n.length≤1000:=fun n hn=>(h.sz n hn).1
theorem Lu:Cv ⟨[],[]⟩:=⟨rfl,by simp,by simp⟩
theorem Ia {d:Dsk}(h:DD d){l:List Int}{ns:List (List Tag)}{xs:List Stp}(hl:l.length≤7) (hn:NmG ns) (hx:∀ x∈xs,x.kind=3∧JR x∧x.part=⟨[],[]⟩) (h3:xs.length≤2):StW d (⟨2,0,⟨[],[]⟩,l,ns⟩ :: xs):=by
 refine ⟨by simp; omega,fun x hm=>?_,fun x hm=>?_,SK h ?_⟩
 ·rcases List.mem_cons.1 hm with rfl | hm
  ·exact IZ hl hn.len (SN hn) AD
  ·exact (hx x hm).2.1
 ·rcases List.mem_cons.1 hm with rfl | hm
  ·exact Lu
  ·rw [(hx x hm).2.2]; exact Lu
 ·have key:∀ (xs:List Stp) (d:Dsk),DD d→(∀ x∈xs,x.kind=3)→∀ k:Nat,DD ((xs.take k).foldl doD d):=by
   intro xs
   induction xs with
   | nil=>intro d h _; exact SL h
   | cons x xs ih=>intro d h hk; exact SK h (ih _ (h.WU (hk x AD)) (fun y hy=>hk y (by simp [hy])))
  exact key xs _ (h.WT rfl hl hn) (fun x hm=>(hx x hm).1)
theorem StW.Ud {d:Dsk}(h:DD d){n:Int}{p:Prt}{xs:List Stp}(hf:d.files.length< 20) (hn:0≤n∧n≤998) (hp:PrtI p) (h3:xs.length≤3) (hx:StW (doD d ⟨1,n,p,[],[]⟩) xs):StW d (⟨1,n,p,[],[]⟩ :: xs):=by
 refine ⟨by simp; omega,fun x hm=>?_,fun x hm=>?_,SK h hx.ok⟩
 ·rcases List.mem_cons.1 hm with rfl | hm
  ·exact IZ AD AD AD (by show -9000000≤n∧n≤9000000; omega)
  ·exact hx.sz x hm
 ·rcases List.mem_cons.1 hm with rfl | hm
  ·exact hp.sz
  ·exact hx.pt x hm
theorem Ue {s:Sto}(h:SD s):NmG s.idx.names:=NmG.of h.nm h.nd
theorem Lv {s:Sto}(h:StoK s):PrtI (Aj s.mem):=PrtI.mem h.row
theorem JJ {d:Dsk}{s:Sto}(h:DD d) (hs:SD s):StW d (Ag d s)∧StW d (((Ag d s).take (Ag d s).length).drop 1):=by
 rw [List.take_length]
 unfold Ag
 split
 ·rename_i hf
  have q:=C9 hf
  have hk:=C3 q.dk
  by_cases hc:s.mem.length=0∨d.list.length≥6∨d.next≥999∨d.files.length≥20
  ·have e:Au d s=[]:=by unfold Au; rw [if_pos hc]
   rw [e]; exact ⟨StW.nil h,StW.nil h⟩
  ·have e:=DJ (d:=d) (s:=s) AB AB AB AB
   rw [e]
   have hn:=h.next
   have h1:=Ia (l:=d.list++[d.next]) (xs:=[]) h (by simp; omega) (Ue hs) AD AD
   have h2:DD (doD d ⟨1,d.next,Aj s.mem,[],[]⟩):=h.Uc rfl AB (by show 0≤d.next∧d.next≤998; omega) (Lv (StoK.of hs q.sk))
   exact ⟨StW.Ud h AB AB (Lv (StoK.of hs q.sk)) AD (Ia h2 (by simp; omega) (Ue hs) AD AD),h1⟩
 ·exact ⟨StW.nil h,StW.nil h⟩
theorem JK {d:Dsk}(h:DD d) (a:Int):StW d (Ah d a)∧StW d (((Ah d a).take (Ah d a).length).drop 1):=by
 rw [List.take_length]
 unfold Ah
 split
 ·rename_i hk0
  have hk:=C3 hk0
  have hdi:=h.di hk0
  unfold Ao
  split
  ·exact ⟨StW.nil h,StW.nil h⟩
  ·rename_i h1
   simp only [Bool.or_eq_true,not_or,Bool.not_eq_true,Bool.not_eq_false',decide_eq_true_eq] at h1
   obtain ⟨⟨h1,h3⟩,h4⟩:=h1
   have h0:=By (by simpa using h1)
   have hl:a.toNat+1< d.list.length:=by omega
   have ha:d.list.getD a.toNat 0∈d.list:=by rw [List.getD_eq_getElem?_getD,AU AB]; exact List.getElem_mem _
   have hb:d.list.getD (a.toNat+1) 0∈d.list:=by rw [List.getD_eq_getElem?_getD,AU hl]; exact List.getElem_mem _
   have na:=hdi.num _ ha
   have nb:=hdi.num _ hb
   have hn:=h.next
   generalize d.list.getD a.toNat 0=x at *
   generalize d.list.getD (a.toNat+1) 0=y at *
   have hp:PrtI (BD (Ax d x) (Ax d y)):=(h.part x).merge (h.part y)
   have hlen:(d.list.take a.toNat++[d.next]++d.list.drop (a.toNat+2)).length≤7:=by
    simp only [List.length_append,List.length_take,List.length_drop,List.length_cons,List.length_nil]; omega
   have hg:∀ z∈[(⟨3,x,⟨[],[]⟩,[],[]⟩:Stp),⟨3,y,⟨[],[]⟩,[],[]⟩],z.kind=3∧JR z∧z.part=⟨[],[]⟩:=fun z hz=>by
    simp only [List.mem_cons,List.not_mem_nil,or_false] at hz
    rcases hz with rfl | rfl
    ·exact ⟨rfl,IZ AD AD AD (by show -9000000≤x∧x≤9000000; omega),rfl⟩
    ·exact ⟨rfl,IZ AD AD AD (by show -9000000≤y∧y≤9000000; omega),rfl⟩
   have h2:DD (doD d ⟨1,d.next,BD (Ax d x) (Ax d y),[],[]⟩):=h.Uc rfl AB (by show 0≤d.next∧d.next≤998; omega) hp
   exact ⟨StW.Ud h AB AB hp AD (Ia h2 hlen h.g hg AD),Ia h hlen h.g hg AD⟩
 ·exact ⟨StW.nil h,StW.nil h⟩
theorem T1 {l:List Stp}{i:Nat}{d:Dsk}{q:Stp}{Y:Dsk}(h:(l.drop i).foldl doD d=Y) (hd:l.drop i=q::l.drop (i+1)):(l.drop (i+1)).foldl doD (doD d q)=Y:=by
 rw [hd] at h
 exact h
theorem Ou {l:List Stp}{i:Nat}{d:Dsk}{Y:Dsk}(h:(l.drop i).foldl doD d=Y) (hi:l.length≤i):d=Y:=by
 rw [Ab hi] at h
 exact h
theorem Va {d:Dsk}{st:List Stp}{c:Int}(hc:¬ c< 0):((st.take (if (st.length:Int)< c then (st.length:Int) else c).toNat).drop 0).foldl doD d=toD d st c:=by
 unfold toD
 rw [List.drop_zero]
 split
 ·rw [show ((st.length:Int)).toNat=st.length by omega,List.take_length,List.take_of_length_le AB]
 ·rfl
theorem JL {l:List Stp}{i:Nat}{x d:Dsk}{st:List Stp}{c:Int}(h:(l.drop i).foldl doD x=toD d st c) (hi:l.length≤i) (hw:StW d st):DD x:=by
 rw [Ou h hi]
 exact hw.ok c.toNat
theorem SO {d:Dsk}(x:Stp):(doD d x).files.length≤d.files.length+1:=by
 unfold doD
 split
 ·simp
 ·split
  ·simp
  ·split
   ·have:=Kt (d:=d) (n:=x.num); simp only; omega
   ·omega
theorem WW {st:List Stp}{c:Int}{k:Nat}{x:Stp}(h:((st.take (if (st.length:Int)< c then (st.length:Int) else c).toNat).drop 0)[k]? = some x):k< st.length:=by
 have:=(List.getElem?_eq_some_iff.1 h).1
 rw [List.length_drop,List.length_take] at this
 omega
theorem QW {d:Dsk}(h:DD d):d.files.length≤1000:=by have:=h.nf; omega
theorem QX {d:Dsk}(h:DD d):∀ f∈d.files,Cv f.part:=fun f hf=>(h.file f hf).sz
theorem QY {d:Dsk}(h:DD d):d.list.length≤1000:=by have:=h.nl; omega
theorem QZ {d:Dsk}(h:DD d):d.names.length≤1000:=by have:=h.g.len; omega
theorem Qa {d:Dsk}(h:DD d):∀ n∈d.names,n.length≤1000:=SN h.g
theorem SP {d:Dsk}{st:List Stp}{c:Int}(h:Az d=false∨c< 0∨Az (toD d st c)=false):(⟨[],[],[],0⟩:Dsk)=Ak d st c:=by
 unfold Ak
 rw [if_neg]
 ·rfl
 ·rintro ⟨h1,h2,h3⟩
  rcases h with h | h | h
  ·rw [h] at h1; cases h1
  ·omega
  ·rw [h] at h3; cases h3
theorem Uf {d:Dsk}{st:List Stp}{c:Int}(h:Az d=true) (h1:¬ c< 0) (h2:Az (toD d st c)=true):Ak d st c=toD d st c:=by
 unfold Ak
 rw [if_pos ⟨h,by omega,h2⟩]
theorem T3 {l:List Stp}{i:Nat}{x d:Dsk}{st:List Stp}{c:Int}(h:(l.drop i).foldl doD x=toD d st c) (hi:l.length≤i) (h2:Az x=false):(⟨[],[],[],0⟩:Dsk)=Ak d st c:=by
 rw [Ou h hi] at h2
 exact SP (.inr (.inr h2))
theorem T4 {l:List Stp}{i:Nat}{x d:Dsk}{st:List Stp}{c:Int}(h:(l.drop i).foldl doD x=toD d st c) (hi:l.length≤i) (h0:Az d=true) (h1:¬ c< 0) (h2:Az x=true):x=Ak d st c:=by
 rw [Ou h hi] at h2 ⊢
 exact (Uf h0 h1 h2).symm
theorem Vb {d:Dsk}{st:List Stp}(c:Int) (h:StW d st):DD (toD d st c):=h.ok c.toNat
theorem DD.tidy {d:Dsk}(h:DD d):DD (BE d):=⟨h.g,h.nl,Nat.le_trans (List.length_filter_le _ _) h.nf,fun f hf=>h.file f (List.mem_filter.1 hf).1,h.next⟩
theorem T5 {d:Dsk}(h:Az d=false):(⟨[],[],[],0⟩:Dsk)=CH d:=by unfold CH; rw [if_neg (by simp [h])]; rfl
theorem KB {d:Dsk}(h:Az d=true):CH d=BE d:=by unfold CH; rw [if_pos h]
theorem Cs {l:List Fil}{i:Nat}{k:List Fil}{q:Fil}(h:k++l.drop i=l) (hd:l.drop i=q::l.drop (i+1)):(k++[q])++l.drop (i+1)=l:=by
 rw [hd] at h
 simpa using h
theorem CI {α:Type}{l:List α}{i:Nat}{k:List α}(h:k++l.drop i=l) (hi:l.length≤i):k=l:=by
 rw [Ab hi] at h
 simpa using h
theorem Vc {a b:List Fil}{k:Nat}{x y:Fil}(h:a.drop k=b.drop k↔a=b) (ha:a.drop k=x::a.drop (k+1)) (hb:b.drop k=y::b.drop (k+1)) (h1:x.num=y.num) (h2:(x.part==y.part)=true):a.drop (k+1)=b.drop (k+1)↔a=b:=by
 have e:x=y:=by
  have:=eq_of_beq h2
  cases x; cases y
  simp_all
 rw [← h,ha,hb,e]
 simp
theorem SQ {a b:List Fil}{k:Nat}{x y:Fil}(h:a.drop k=b.drop k↔a=b) (ha:a.drop k=x::a.drop (k+1)) (hb:b.drop k=y::b.drop (k+1)) (h1:x.num≠y.num∨(x.part==y.part)=false):a≠b:=fun e=>by
 have:=h.2 e
 rw [ha,hb,List.cons.injEq] at this
 rcases h1 with h1 | h1
 ·exact h1 (by rw [this.1])
 ·rw [this.1] at h1; simp at h1
theorem Nv {α:Type}{a b:List α}{k:Nat}(h:a.drop k=b.drop k↔a=b) (ha:a.length≤k) (hl:(a.length:Int)=b.length):a=b:=h.1 (by rw [Ab ha,Ab AB])
theorem Hk {a b:Dsk}(h:a.files≠b.files∨a.list≠b.list∨a.names≠b.names∨a.next≠b.next):false=(a==b):=(beq_eq_false_iff_ne.2 (fun e=>by subst e; simp at h)).symm
theorem Vd {a b:Dsk}(h1:a.files=b.files) (h2:(a.list==b.list)=true) (h3:a.names=b.names) (h4:a.next=b.next):true=(a==b):=by
 symm
 rw [beq_iff_eq]
 have:=eq_of_beq h2
 cases a; cases b
 simp_all
theorem SR {α:Type}{a b:List α}(h:(a.length:Int)≠b.length):a≠b:=fun e=>h (by rw [e])
theorem Ve {α:Type}[BEq α] [LawfulBEq α] {a b:α}(h:(a==b)=false):a≠b:=beq_eq_false_iff_ne.1 h
theorem Ug {d:Dsk}{a:Int}(h:Az d=true) (h1:inR a 0 ((d.list.length:Int) - 2)=false∨Eh d=true):[]=Ah d a:=by
 rw [EA h,H4]
 rcases h1 with h1 | h1
 ·exact .inl h1
 ·rcases Pf h1 with h1 | h1
  ·exact .inr (.inl AB)
  ·exact .inr (.inr AB)
theorem Lw {d:Dsk}{n:Int}(hn:n∈d.list):Ax d n∈(Al d).parts:=by
 show _∈d.list.map (Ax d)
 exact List.mem_map.2 ⟨n,hn,rfl⟩
theorem SS {d:Dsk}{at_ a b:Int}{f g:Fil}(hd:DD d) (h:Az d=true) (h1:inR at_ 0 ((d.list.length:Int) - 2)=true) (h2:Eh d=false) (ha:d.list[at_.toNat]? = some a) (hb:d.list[(at_+1).toNat]? = some b) (hf:d.files[(Av d a).toNat]? = some f) (hg:d.files[(Av d b).toNat]? = some g) :
 [⟨1,d.next,(CD f.part g.part).1,[],[]⟩,⟨2,0,⟨[],[]⟩,(([]++(d.list.take at_.toNat).drop 0)++[d.next])++(d.list.take d.list.length).drop (at_+2).toNat,d.names⟩,⟨3,a,⟨[],[]⟩,[],[]⟩,⟨3,b,⟨[],[]⟩,[],[]⟩]=Ah d at_:=by
 have hx:=Pe h2
 have hk:=C3 h
 have:=hd.nf
 have hs:=hd.sd h
 have hso:=(Fi h).2.1
 have e:=Kq hs hso (Lw (AV ha)) (Lw (AV hb))
 rw [Eo hf,Eo hg] at e
 rw [e,EA h,EL h1 AB AB ha hb hf hg]
end Go.Proofs.YtggnnidleedpaaaGreat
namespace Go.Proofs.YtggnnidleedpaaaGreat
def Da (l:List Int):Nat→List Fil→Int
 | _,[]=>-1
 | i,f::fs=>if l.contains f.num then Da l (i+1) fs else i
theorem Vf {l:List Int}{s:List Fil}{k:Nat}{f:Fil}(h:Da l k (s.drop k)=Da l 0 s) (hd:s.drop k=f::s.drop (k+1)) (hc:(!(l.contains f.num))=false):Da l (k+1) (s.drop (k+1))=Da l 0 s:=by
 rw [← h,hd]
 show _=if l.contains f.num then Da l (k+1) (s.drop (k+1)) else (k:Int)
 rw [if_pos (by simpa using hc)]
theorem SU {l:List Int}{s:List Fil}{k:Nat}{f:Fil}(h:Da l k (s.drop k)=Da l 0 s) (hd:s.drop k=f::s.drop (k+1)) (hc:(!(l.contains f.num))=true):(k:Int)=Da l 0 s:=by
 rw [← h,hd]
 show _=if l.contains f.num then Da l (k+1) (s.drop (k+1)) else (k:Int)
 rw [if_neg (by simpa using hc)]
theorem SV {l:List Int}{s:List Fil}{k:Nat}(h:Da l k (s.drop k)=Da l 0 s) (hk:s.length≤k):(-1:Int)=Da l 0 s:=by
 rw [Ab hk] at h
 exact h
theorem G6 (l:List Int):∀ (s:List Fil) (i:Nat),(Da l i s = -1∧s.filter (fun f=>l.contains f.num)=s)∨∃ k:Nat,Da l i s=(i+k:Nat)∧k< s.length∧s.take k=(s.take (k+1)).filter (fun f=>l.contains f.num):=by
 intro s
 induction s with
 | nil=>intro i; exact .inl ⟨rfl,rfl⟩
 | cons f fs ih =>
   intro i
   unfold Da
   by_cases hc:l.contains f.num=true
   ·rw [if_pos hc]
    rcases ih (i+1) with ⟨h1,h2⟩ | ⟨k,h1,h2,h3⟩
    ·left
     refine ⟨h1,?_⟩
     rw [List.filter_cons,if_pos hc,h2]
    ·right
     refine ⟨k+1,by rw [h1]; omega,by simp; omega,?_⟩
     rw [List.take_succ_cons,List.take_succ_cons,List.filter_cons,if_pos hc,← h3]
   ·rw [if_neg hc]
    right
    refine ⟨0,by simp,by simp,?_⟩
    simp only [List.take_zero,Nat.zero_add,List.take_succ_cons]
    rw [List.filter_cons,if_neg hc]
    rfl
theorem Pg {l:List Int}{s:List Fil}(h:¬ Da l 0 s = -1):0≤Da l 0 s:=by
 rcases G6 l s 0 with ⟨h1,_⟩ | ⟨k,h1,_⟩
 ·exact absurd h1 h
 ·omega
theorem Ph (l:List Int) (s:List Fil):Da l 0 s< s.length∨s.length=0∧Da l 0 s = -1:=by
 rcases G6 l s 0 with ⟨h1,_⟩ | ⟨k,h1,h2,_⟩
 ·by_cases e:s.length=0
  ·exact .inr ⟨e,h1⟩
  ·exact .inl AB
 ·exact .inl AB
theorem Qb {l:List Int}{s:List Fil}(h:¬ Da l 0 s = -1):s.take (Da l 0 s).toNat=(s.take (Da l 0 s+1).toNat).filter (fun f=>l.contains f.num):=by
 rcases G6 l s 0 with ⟨h1,_⟩ | ⟨k,h1,h2,h3⟩
 ·exact absurd h1 h
 ·rw [h1,show (((0+k:Nat):Int)).toNat=k by omega,show (((0+k:Nat):Int)+1).toNat=k+1 by omega]
  exact h3
theorem T6 {l:List Int}{s:List Fil}(h:Da l 0 s = -1):s=s.filter (fun f=>l.contains f.num):=by
 rcases G6 l s 0 with ⟨_,h1⟩ | ⟨k,h1,h2,h3⟩
 ·exact h1.symm
 ·omega
theorem JX {α:Type}{a b:List α}{j:Nat}{x:α}(h:a.drop j=b.drop j) (hx:a[j]? = some x):b[j]? = some x:=by
 have h1:(a.drop j)[0]? = (b.drop j)[0]? := by rw [h]
 rw [List.getElem?_drop,List.getElem?_drop,Nat.add_zero] at h1
 rw [← h1]; exact hx
theorem Lx {α:Type}{b:List α}{j:Int}{x:α}(hj:0≤j) (hx:b[j.toNat]? = some x):b.take (j+1).toNat=b.take j.toNat++[x]:=by
 rw [show (j+1).toNat=j.toNat+1 by omega,List.take_add_one,hx]
 rfl
theorem SW {l:List Int}{xs xs0:List Fil}{i j:Int}{v:Fil}(h:xs.take i.toNat=(xs0.take j.toNat).filter (fun f=>l.contains f.num)) (h2:xs.drop j.toNat=xs0.drop j.toNat) (hv:xs[j.toNat]? = some v) (hi:0≤i) (hij:i< j) (hl:j< xs.length) (hc:(!(l.contains v.num))=false):(xs.set i.toNat v).take (i+1).toNat=(xs0.take (j+1).toNat).filter (fun f=>l.contains f.num):=by
 have h0:=JX h2 hv
 rw [Lx AB h0,List.filter_append,← h,List.filter_cons,if_pos (by simpa using hc),show (i+1).toNat=i.toNat+1 by omega,List.take_add_one,List.take_set_of_le (Nat.le_refl _),List.getElem?_set_self AB]
 rfl
theorem SX {l:List Int}{xs xs0:List Fil}{i j:Int}{v:Fil}(h:xs.take i.toNat=(xs0.take j.toNat).filter (fun f=>l.contains f.num)) (h2:xs.drop j.toNat=xs0.drop j.toNat) (hv:xs[j.toNat]? = some v) (hj:0≤j) (hc:(!(l.contains v.num))=true):xs.take i.toNat=(xs0.take (j+1).toNat).filter (fun f=>l.contains f.num):=by
 have h0:=JX h2 hv
 rw [Lx hj h0,List.filter_append,← h,List.filter_cons,if_neg (by simpa using hc)]
 simp
theorem Qc {xs xs0:List Fil}{i j:Int}{v:Fil}(h2:xs.drop j.toNat=xs0.drop j.toNat) (hi:0≤i) (hij:i< j) (_hj:0≤j):(xs.set i.toNat v).drop (j+1).toNat=xs0.drop (j+1).toNat:=by
 rw [List.drop_set_of_lt AB,show (j+1).toNat=j.toNat+1 by omega,← List.drop_drop,← List.drop_drop,h2]
theorem SY {xs xs0:List Fil}{j:Int}(h2:xs.drop j.toNat=xs0.drop j.toNat) (hj:0≤j):xs.drop (j+1).toNat=xs0.drop (j+1).toNat:=by
 rw [show (j+1).toNat=j.toNat+1 by omega,← List.drop_drop,← List.drop_drop,h2]
theorem T7 {l:List Int}{xs xs0:List Fil}{i j:Int}(h:xs.take i.toNat=(xs0.take j.toNat).filter (fun f=>l.contains f.num)) (h2:xs.drop j.toNat=xs0.drop j.toNat) (hj:(xs.length:Int)≤j) (hij:0≤j):xs.take i.toNat=xs0.filter (fun f=>l.contains f.num):=by
 rw [h]
 congr 1
 have h3:xs0.drop j.toNat=[]:=by rw [← h2]; exact List.drop_of_length_le AB
 rw [List.drop_eq_nil_iff] at h3
 exact List.take_of_length_le h3
end Go.Proofs.YtggnnidleedpaaaGreat
namespace Go.Proofs.YtggnnidleedpaaaGreat
set_option maxRecDepth 100000
set_option maxHeartbeats 4000000
variable {w:World} {F:Nat→Prop}
theorem JM {r n c i:Nat}{xs:List Fil}{a b:Int}(ho:Own w r 50 F n c xs) (ha:a=(i:Int)) (hb:b=(i:Int)+1) (hi:i< n) (hn:n≤1000000):Calls Tryz.prog 143 [.slice (some ⟨r,0,none⟩) n c,.int .i64 a,.int .i64 b].toArray w (Am fun rv w'=>(rv=.slice (some ⟨r,0,none⟩) (n - 1) c∧Own w' r 50 F (n - 1) c (xs.take i++xs.drop (i+1)))∧Chg (one r) w w'):=by
 subst ha hb
 refine goT func143 ?_
 have hle:=ho.le
 obtain ⟨cs,hB,hl⟩:=ho.VI
 have hz:Rep.sz Fil=3:=rfl
 rw [hz] at hl
 refine .s<|.g<|.r 1<|.d<|.s<|.g<|.r 5<|RG.WL (t:=33) (k:=.i64) (k2:=.i64) (k3:=.i64) (a:=some ⟨r,0,none⟩) (len:=n) (cap:=c) (i1:=(i:Int)) (i2:=(i:Int)+1) (i3:=(n:Int)) (sz:=3) i (i+1) n AA AA rfl AB rfl AB AB hle fun v_=>.d<|.s<|.s<|.g<|.r 2<|.eq (i:Int) ((i:Int)+1) (fun h=>absurd (show False by omega) id) fun _=>.d<|.cf<|.sk<|.s<|.g<|.r 3<|.d<|.s<|.gd (one r) 7 fun w1 hx1=>?_
 refine .r [0,1]<|GA.HB (i:=2) (t:=33) (r:=r) (o:=0) (len:=n) (cap:=c) (lo:=none) (hi:=some (vI (i:Int))) (sz:=3) 0 i AA AA AA (.inl ⟨rfl,rfl⟩) (.inr ⟨_,_,rfl,rfl⟩) AB AB AB<|.r [3,4]<|GA.WM (i:=5) (t:=33) (r:=r) (len:=n) (cap:=c) (lo:=some (vI ((i:Int)+1))) (hi:=none) (sz:=3) (i+1) n AA AA AA (.inr ⟨_,_,rfl,by omega⟩) (.inl ⟨rfl,rfl⟩) AB AB fun a2 c2 h2=>?_
 refine .go 6<|GE.append (T:=33) (ty:=33) (args:=[.slice (some ⟨r,0,none⟩) i c,.slice a2 (n - (i+1)) c2]) AA fun w2 hx2=>?_
 have hx12:Ext w w2:=hx1.trans hx2
 have m1:(i+1) * 3+(n - (i+1)) * 3=n * 3:=by omega
 have hB2:=hB.ext hx12
 obtain ⟨w3,hr,hB3,hx3⟩:=Nd (P:=Tryz.prog) (T:=33) (ty:=33) (t:=50) (sz:=3) (i:=i) (c:=c) (m:=n - (i+1)) (c':=c2) (a2:=a2) (vs:=(cs.drop ((i+1) * 3)).take ((n - (i+1)) * 3)) AA hB2
  (fun hp=>⟨_,h2 hp,fun k u hu=>by
   rw [add_lit]
   unfold Box at hB2
   simp only [World.cell?,hB2]
   rw [List.getElem?_take] at hu
   split at hu
   ·rw [List.getElem?_drop] at hu
    simpa using hu
   ·cases hu⟩) (by rw [List.length_take,List.length_drop]; omega) AB (by rw [List.length_take,List.length_drop]; omega) (fun v hv=>ho.Wu (i:=i+1) hB v AB hv)
 refine ⟨_,w3,hr,hx3,.d fun w4 hx4=>.r 1<|.d<|.s<|.g<|.r 4<|?_⟩
 have hB4:=hB3.ext hx4
 have hlen:i+(n - (i+1))=n - 1:=by omega
 rw [hlen]
 refine RG.HB (t:=33) (r:=r) (o:=0) (len:=n - 1) (cap:=c) (lo:=some (vI ((n - 1:Nat):Int))) (hi:=some (vI (n:Int))) (sz:=3) (n - 1) n AA AA (.inr ⟨_,_,rfl,rfl⟩) (.inr ⟨_,_,rfl,rfl⟩) AB AB AB ?_
 have h1:n - (n - 1)=1:=by omega
 rw [h1]
 have hl4:(BB cs (i * 3) ((cs.drop ((i+1) * 3)).take ((n - (i+1)) * 3))).length=c * 3:=by rw [D3 (by rw [List.length_take,List.length_drop]; omega)]; exact hl
 obtain ⟨vs,w5,hr5,hv5,hB5,hx5⟩:=Nf (P:=Tryz.prog) (T:=33) (ty:=0) (t:=50) (sz:=3) (o:=0+(n - 1) * 3) (c:=c - (n - 1)) AA hB4 AB
 rw [Nat.zero_add] at hB5
 have hd:=Lq (sz:=3) hl hi hle rfl hv5
 have hx:Chg (one r) w w5:=(((hx12.chg (S:=one r)).trans hx3).trans hx4.chg).trans hx5
 refine RG.clear (ats:=[33]) (ty:=0) (args:=[.slice (some ⟨r,0+(n - 1) * 3,none⟩) 1 (c - (n - 1))]) AA hr5<|.d<|.s<|.g<|.r 2<|.d<|.rt func143 results143 (.slice (some ⟨r,0,none⟩) (n - 1) c) ⟨⟨rfl,Own.R5 ho hx hB hB5 (by rw [hz]; exact hd.1) hi (by rw [hz]; exact hd.2)⟩,hx⟩
end Go.Proofs.YtggnnidleedpaaaGreat
