/- Blocks and parts merged, as the program does it: plain laws. -/
import Derived.Test.YtggnnidleedpaaaGreatWqzMod30
import Derived.Test.YtggnnidleedpaaaGreatWqzMod23
open Go.Proofs.Tryz
set_option linter.unusedVariables false
set_option linter.unusedSimpArgs false
namespace Go.Proofs.YtggnnidleedpaaaGreat
theorem JW {b:List Row}(h:Bf b=true):Blk b:=by
 unfold Bf at h
 simp only [AW] at h
 exact h.1
def CC (a b:List Row):List Row × Bool:=if Bf a=true∧Bf b=true∧¬ ((Bb a b).length:Int) > 24 then (Bb a b,true) else ([],false)
theorem KC {a b:List Row}(h:Bf a=false∨Bf b=false):CC a b=([],false):=by
 unfold CC
 rw [if_neg]
 rintro ⟨h1,h2,_⟩
 rcases h with h | h
 ·rw [h] at h1; cases h1
 ·rw [h] at h2; cases h2
theorem Pc {a b out:List Row}(e:out=Bb a b) (_ha:Bf a=true) (_hb:Bf b=true) (h:(out.length:Int) > 24):[]=(CC a b).1∧false=(CC a b).2:=by
 subst e
 unfold CC
 rw [if_neg (fun q=>q.2.2 h)]
 exact ⟨rfl,rfl⟩
theorem Pd {a b out:List Row}(e:out=Bb a b) (ha:Bf a=true) (hb:Bf b=true) (h:¬ (out.length:Int) > 24):out=(CC a b).1∧true=(CC a b).2:=by
 subst e
 unfold CC
 rw [if_pos ⟨ha,hb,h⟩]
 exact ⟨rfl,rfl⟩
theorem R7 {a b:List Row}(h:(CC a b).2=true):(CC a b).1=Bb a b:=by
 unfold CC at h ⊢
 split at h
 ·rename_i h1; rw [if_pos h1]
 ·cases h
def okM (a b:Prt) (n:Nat):Bool:=(List.range n).all (fun i=>(CC (BF a ((i:Int)+1)) (BF b ((i:Int)+1))).2)
theorem R8 (a b:Prt) (n:Nat):okM a b (n+1)=(okM a b n&&(CC (BF a ((n:Int)+1)) (BF b ((n:Int)+1))).2):=by simp [okM,List.range_succ]
def CB (a b:Prt):Prt × Bool:=if Au a=true∧Au b=true∧okM a b 6=true then (BC a b,true) else (⟨[],[]⟩,false)
theorem KD {a b:Prt}(h:Au a=false∨Au b=false):CB a b=(⟨[],[]⟩,false):=by
 unfold CB
 rw [if_neg]
 rintro ⟨h1,h2,_⟩
 rcases h with h | h
 ·rw [h] at h1; cases h1
 ·rw [h] at h2; cases h2
theorem Pe {a b:Prt}{k:Nat}(h1:1≤k) (h2:k≤6) (h:(CC (BF a (k:Int)) (BF b (k:Int))).2=false):CB a b=(⟨[],[]⟩,false):=by
 unfold CB
 rw [if_neg]
 rintro ⟨_,_,h3⟩
 unfold okM at h3
 rw [List.all_eq_true] at h3
 have:=h3 (k - 1) (by simp; omega)
 rw [show ((k - 1:Nat):Int)+1=(k:Int) by omega,h] at this
 cases this
theorem Nh {a b:Prt}{k:Nat}(h:okM a b (k - 1)=true) (h1:1≤k) (h2:(CC (BF a (k:Int)) (BF b (k:Int))).2=true):okM a b (k+1 - 1)=true:=by
 rw [show k+1 - 1=(k - 1)+1 by omega,R8,h,show ((k - 1:Nat):Int)+1=(k:Int) by omega,h2]
 rfl
theorem Pf {a b:Prt}(ha:Au a=true) (hb:Au b=true){k:Nat}(hk:1≤k) (h:(CC (BF a (k:Int)) (BF b (k:Int))).2=true):BT a b (k+1 - 1)=BT a b (k - 1)++[(CC (BF a (k:Int)) (BF b (k:Int))).1]:=by
 have ea:BF a (k:Int)=partOf a (k:Int):=by unfold BF; rw [if_pos ha]
 have eb:BF b (k:Int)=partOf b (k:Int):=by unfold BF; rw [if_pos hb]
 rw [show k+1 - 1=(k - 1)+1 by omega,Hx,show ((k - 1:Nat):Int)+1=(k:Int) by omega,R7 h,ea,eb]
section
variable {a b:Prt} {k:Nat}
theorem Ts {o:List Int}(ha:Au a=true) (hb:Au b=true) (hk:1≤k) (h:(CC (BF a (k:Int)) (BF b (k:Int))).2=true) (e:o=(BJ 0 (BT a b (k - 1))).1) (hl:((CC (BF a (k:Int)) (BF b (k:Int))).1.length:Int) > 0):o++[(k:Int)]=(BJ 0 (BT a b (k+1 - 1))).1:=by
 rw [Pf ha hb hk h,DN,if_pos AB,e,Dr,show ((0:Nat):Int)+((k - 1:Nat):Int)+1=(k:Int) by omega]
theorem Tt {o:List Int}(ha:Au a=true) (hb:Au b=true) (hk:1≤k) (h:(CC (BF a (k:Int)) (BF b (k:Int))).2=true) (e:o=(BJ 0 (BT a b (k - 1))).1) (hl:¬ ((CC (BF a (k:Int)) (BF b (k:Int))).1.length:Int) > 0):o=(BJ 0 (BT a b (k+1 - 1))).1:=by
 rw [Pf ha hb hk h,DN,if_neg AB,e]
theorem Tu {o:List (List Row)}(ha:Au a=true) (hb:Au b=true) (hk:1≤k) (h:(CC (BF a (k:Int)) (BF b (k:Int))).2=true) (e:o=(BJ 0 (BT a b (k - 1))).2) (hl:((CC (BF a (k:Int)) (BF b (k:Int))).1.length:Int) > 0):o++[(CC (BF a (k:Int)) (BF b (k:Int))).1]=(BJ 0 (BT a b (k+1 - 1))).2:=by
 rw [Pf ha hb hk h,DN,if_pos AB,e]
theorem Tv {o:List (List Row)}(ha:Au a=true) (hb:Au b=true) (hk:1≤k) (h:(CC (BF a (k:Int)) (BF b (k:Int))).2=true) (e:o=(BJ 0 (BT a b (k - 1))).2) (hl:¬ ((CC (BF a (k:Int)) (BF b (k:Int))).1.length:Int) > 0):o=(BJ 0 (BT a b (k+1 - 1))).2:=by
 rw [Pf ha hb hk h,DN,if_neg AB,e]
theorem Pg {x:List Int}{y:List (List Row)}(hk:k=7) (ha:Au a=true) (hb:Au b=true) (e1:x=(BJ 0 (BT a b (k - 1))).1) (e2:y=(BJ 0 (BT a b (k - 1))).2) (h:okM a b (k - 1)=true):(⟨x,y⟩:Prt)=(CB a b).1∧true=(CB a b).2:=by
 subst hk e1 e2
 unfold CB
 rw [if_pos ⟨ha,hb,h⟩]
 exact ⟨rfl,rfl⟩
end
theorem Lu {p:Prt}(h:Cv p) (id:Int):(BF p id).length≤1000:=by
 unfold BF
 split
 ·exact DG h id
 ·simp
def BM (s:Sto) (at_:Int):Sto × Bool:=if Ac s then BD (AZ s) at_ else (⟨⟨[],[]⟩,[],[]⟩,false)
theorem JE {s:Sto}{i:Int}(h:Ac s=false):BM s i=(⟨⟨[],[]⟩,[],[]⟩,false):=by unfold BM; rw [if_neg (by simp [h])]
theorem F3 {s:Sto}{i:Int}(h:Ac s=true):BM s i=BD (AZ s) i:=by unfold BM; rw [if_pos h]
end Go.Proofs.YtggnnidleedpaaaGreat
namespace Go.Proofs.YtggnnidleedpaaaGreat
set_option maxRecDepth 100000
set_option maxHeartbeats 4000000
variable {w:World} {F:Nat→Prop} {a1 a2 a3 a4:Option Addr} {n1 c1 n2 c2 n3 c3 n4 c4:Nat}
theorem IN (a:List Row) (b:List Row) (h1:RepS w F a1 n1 c1 a) (h2:RepS w F a2 n2 c2 b) (p0:a.length≤1000) (p1:b.length≤1000):Calls Tryz.prog 140 [.slice a1 n1 c1,.slice a2 n2 c2].toArray w (Am fun rv w'=>(∃ v0,rv=.tuple #[v0,.bool ((CC a b).2)]∧VL (ge w.heap.size) w' ((CC a b).1:List Row) v0)∧Ext w w'):=by
 cases h1.len
 cases h2.len
 refine goT func140 ?_
 have Z:=((St.i0 F w).p h1).p h2
 refine .s<|.g<|.r 2<|.d<|.s<|.s<|.g<|.r 1<|RG.C0 (DI a (Z.a 1)) Z fun w Z=>?_
 cases am:(Bf a)
 ·exact .r 6<|.d<|.ct<|.s<|.g<|RG.N0 Row 0 Z fun ay w Z=>.r 2<|.d<|T.r2 func140 results140 (.T _) (.t (.bool false)) ⟨⟨_,(Bx rfl (AG (by exact (congrArg Prod.snd (KC (.inl ‹_›))).symm))),Z.rM 0 ([]:List Row) (by exact (congrArg Prod.fst (KC (.inl ‹_›))).symm)⟩,Z.xt⟩
 refine .r 3<|RG.C0 (DI b (Z.a 0)) Z fun w Z=>?_
 cases ao:(Bf b)
 ·exact .r 2<|.d<|.ct<|.s<|.g<|RG.N0 Row 0 Z fun az w Z=>.r 2<|.d<|T.r2 func140 results140 (.T _) (.t (.bool false)) ⟨⟨_,(Bx rfl (AG (by exact (congrArg Prod.snd (KC (.inr ‹_›))).symm))),Z.rM 0 ([]:List Row) (by exact (congrArg Prod.fst (KC (.inr ‹_›))).symm)⟩,Z.xt⟩
 refine .r 2<|.d<|.cf<|.sk<|.s<|.g<|RG.N0 Row 0 Z fun aA w Z=>.r 1<|RG.An (hf:=.inr Bm) 0 1 ([]:List Row) a Z fun ag ah w Z=>.r 1<|.d<|.s<|.s<|.g<|.r 3<|.d<|.b 0 ?_
 have Z:=Z.sl 0
 refine T.Lp ((([]++a):List Row),sA ag,ah,(0:Nat)) (fun (out,a_out,c_out,k)=>([(6,.slice a_out out.length c_out),(21,.slice a2 b.length c2),(22,vI (b.length:Int)),(23,vI (k:Int))],[],[⟨0,none,.rep a_out c_out out⟩],b.length - k,(k≤b.length)∧(Blk out)∧((b.drop k).foldl ED out=Bb a b))) [0] Z ⟨AB,(by exact JW ‹_›),AF⟩ ?_
 rintro ⟨out,a_out,c_out,k⟩ aB w Z ⟨aq,ar,au⟩ aa
 refine .s<|.g<|.bp ((k:Int)< (b.length:Int)) (fun ab=>?_) (fun ab=>.d<|.s<|.cf<|.x 0 rfl<|.s<|.s<|.g<|.r 2<|.bp ((out.length:Int) > 24) (fun ac=>.d<|.ct<|.s<|.g<|RG.N0 Row 0 Z fun aC w Z=>.r 2<|.d<|T.r2 func140 results140 (.T _) (.t (.bool false)) ⟨⟨_,(Bx rfl (AG (by exact (Pc (out:=out) (FF ‹_› AB) ‹_› ‹_› AB).2))),Z.rM 0 ([]:List Row) (by exact (Pc (out:=out) (FF ‹_› AB) ‹_› ‹_› AB).1)⟩,Z.xt⟩) fun ac=>.d<|.cf<|.sk<|.s<|.g<|.r 3<|.d<|T.r2 func140 results140 (.T _) (.t (.bool true)) ⟨⟨_,(Bx rfl (AG (by exact (Pd (out:=out) (FF ‹_› AB) ‹_› ‹_› AB).2))),Z.rL 0 out (by exact (Pd (out:=out) (FF ‹_› AB) ‹_› ‹_› AB).1)⟩,Z.xt⟩)
 exact .d<|.s<|.ct<|.sk<|.s<|.b 1<|.s<|.g<|gxb b k fun ae E ax af=>RG.Ix 2 E Z<|Z.el 2 E fun Z=>RG.Lg 0 0 Z<|RG.Np Z fun aD w Z=>RG.Ss 0 Z fun w Z=>.d<|.g<|.r 1<|RG.Ln 0 Z<|RG.CL (He out ae (Z.a 1) (by have:=Blk.len (by assumption:Blk out); omega)) Z fun ai aj w Z=>.r 1<|.d<|.ib 1<|.g<|.it ((k:Int)+1)<|.r 1<|.d<|aa (DK ae out,ai,aj,k+1) _ _ AA (Z.to 1 [0] 3) ⟨AB,(by exact Blk.ins ‹_› ((JW (by assumption:Bf b=true)).rows _ ‹_›)),(by rw [← Fc ‹_›]; exact E5 ‹_› ‹_›)⟩ (by (simp only []; omega))
theorem EM (a:Prt) (b:Prt) (h1:RepS w F a1 n1 c1 a.ids) (h2:RepS w F a2 n2 c2 a.blocks) (h3:RepS w F a3 n3 c3 b.ids) (h4:RepS w F a4 n4 c4 b.blocks) (p0:Cv a) (p1:Cv b):Calls Tryz.prog 99 [.agg #[.slice a1 n1 c1,.slice a2 n2 c2],.agg #[.slice a3 n3 c3,.slice a4 n4 c4]].toArray w (Am fun rv w'=>(∃ v0,rv=.tuple #[v0,.bool ((CB a b).2)]∧VS (ge w.heap.size) w' ((CB a b).1:Prt) v0)∧Ext w w'):=by
 refine goT func99 ?_
 obtain ⟨rfl,en,h1⟩:=h1.tp
 obtain ⟨rfl,ey,h2⟩:=h2.tp
 obtain ⟨rfl,ez,h3⟩:=h3.tp
 obtain ⟨rfl,eA,h4⟩:=h4.tp
 refine .s<|.g<|.np 48 [.slice a1 a.ids.length c1,.slice a2 a.blocks.length c2] fun ai fa bK bd aa cV=>?_
 replace ⟨h1,h2,h3,h4⟩:=(sn [] bd bK).g4 h1 h2 h3 h4
 have E:=bd
 refine .np 48 [.slice a3 b.ids.length c3,.slice a4 b.blocks.length c4] fun aj fb bL bM ab cW=>?_
 replace ⟨h1,h2,h3,h4,aa,E⟩:=(sn [ai] bM bL).g6 h1 h2 h3 h4 aa E
 refine .np 48 [AH,AH] fun ak dB aT bN ac cX=>?_
 have eB:=Ab aT aa.lt
 have eC:=Ab aT ab.lt
 have eD:=E.cn aT
 replace ⟨h1,h2,h3,h4,aa,ab,E⟩:=(sn [aj,ai] bN aT).g7 h1 h2 h3 h4 aa ab E
 refine .r 1<|.d<|.s<|.s<|.g<|.ln aa<|.cl (C4 a h1.ta h2.ta (w:=dB) (F:=all)) ?_
 rintro fd dC ⟨rfl,bO⟩
 replace ⟨h1,h2,h3,h4,aa,ab,ac,E⟩:=(se [ak,aj,ai] bO).g8 h1 h2 h3 h4 aa ab ac E
 cases eE:(Au a)
 ·refine .r 6<|.d<|.ct<|.s<|.g<|.r 1<|.sc [AH,AH] ac fun fe bP cY cZ=>?_
  replace ⟨h1,h2,h3,h4,aa,ab,E⟩:=(so [ak,aj,ai] bP).g7 h1 h2 h3 h4 aa ab E
  exact .r 1<|.d<|.r2 func99 results99 (.bx cY) (.t (.bool false)) ⟨⟨_,(Bx rfl (AG (by exact (congrArg Prod.snd (KD (.inl ‹_›))).symm))),(VS.of (y:=(⟨([]:List Int),([]:List (List Row))⟩:Prt)) ⟨_,rfl,⟨_,_,_,_,_,_,rfl,(RepS.BN _ _ none 0 AE),(RepS.BN _ _ none 0 AE)⟩⟩ (by exact (congrArg Prod.fst (KD (.inl ‹_›))).symm))⟩,E⟩
 refine .r 2<|.ln ab<|.cl (C4 b h3.ta h4.ta (w:=dC) (F:=all)) ?_
 rintro ff fg ⟨rfl,bQ⟩
 replace ⟨h1,h2,h3,h4,aa,ab,ac,E⟩:=(se [ak,aj,ai] bQ).g8 h1 h2 h3 h4 aa ab ac E
 cases eF:(Au b)
 ·refine .r 2<|.d<|.ct<|.s<|.g<|.r 1<|.sc [AH,AH] ac fun fi bR c7 c8=>?_
  replace ⟨h1,h2,h3,h4,aa,ab,E⟩:=(so [ak,aj,ai] bR).g7 h1 h2 h3 h4 aa ab E
  exact .r 1<|.d<|.r2 func99 results99 (.bx c7) (.t (.bool false)) ⟨⟨_,(Bx rfl (AG (by exact (congrArg Prod.snd (KD (.inr ‹_›))).symm))),(VS.of (y:=(⟨([]:List Int),([]:List (List Row))⟩:Prt)) ⟨_,rfl,⟨_,_,_,_,_,_,rfl,(RepS.BN _ _ none 0 AE),(RepS.BN _ _ none 0 AE)⟩⟩ (by exact (congrArg Prod.fst (KD (.inr ‹_›))).symm))⟩,E⟩
 refine .r 2<|.d<|.cf<|.sk<|.s<|.g<|.ns 0 3 [] fun aB dD aK bS c9 da=>?_
 have db:=Ab aK aa.lt
 have de:=Ab aK ab.lt
 have df:=Ab aK ac.lt
 have dh:=BV aK E.size
 have dj:=E.cn aK
 replace ⟨h1,h2,h3,h4,aa,ab,ac,E⟩:=(sn [ak,aj,ai] bS aK).g8 h1 h2 h3 h4 aa ab ac E
 have aD:Own (α:=Int) dD aB 3 (nin (ge w.heap.size) [aB,ak,aj,ai]) 0 0 []:=Own.BN c9
 refine .ns 0 62 [] fun aG dE aH bT dm dp=>?_
 have dq:=Ab aH aa.lt
 have dt:=Ab aH ab.lt
 have du:=Ab aH ac.lt
 have dv:=Ab aH aD.lt
 have dw:=BV aH E.size
 have dx:=E.cn aH
 replace ⟨h1,h2,h3,h4,aa,ab,ac,aD,E⟩:=(sn [aB,ak,aj,ai] bT aH).g9 h1 h2 h3 h4 aa ab ac aD E
 have aN:Own (α:=List Row) dE aG 62 (nin (ge w.heap.size) [aG,aB,ak,aj,ai]) 0 0 []:=Own.BN dm
 refine .r 1<|.np 48 [AH,AH] fun al fj aI bg bZ b0=>?_
 have dF:=Ab aI aa.lt
 have dG:=Ab aI ab.lt
 have dH:=Ab aI ac.lt
 have b6:=Ab aI aD.lt
 have b7:=Ab aI aN.lt
 have dI:=E.cn aI
 replace ⟨h1,h2,h3,h4,aa,ab,ac,aD,aN,E⟩:=(sn [aG,aB,ak,aj,ai] bg aI).g10 h1 h2 h3 h4 aa ab ac aD aN E
 refine .sc [vS aB 0 0,vS aG 0 0] bZ fun aL bh aU b8=>?_
 replace ⟨h1,h2,h3,h4,aa,ab,ac,aD,aN,E⟩:=(so [al,aG,aB,ak,aj,ai] bh).g10 h1 h2 h3 h4 aa ab ac aD aN E
 refine .d<|.s<|.s<|.g<|.r 1<|.d<|.b 0<|T.loop (X:=Nat × (List Int) × Nat × Nat × Nat × (List (List Row)) × Nat × Nat × Nat) (1,([]:List Int),aB,0,0,([]:List (List Row)),aG,0,0) (fun (j,au,r_out_0,n_out_0,c_out_0,ax,r_out_1,n_out_1,c_out_1)=>[(2,.pointer (some ⟨ai,0,none⟩)),(3,.pointer (some ⟨aj,0,none⟩)),(4,.pointer (some ⟨ak,0,none⟩)),(6,.pointer (some ⟨al,0,none⟩)),(7,vI (j:Int))]) (fun (j,au,r_out_0,n_out_0,c_out_0,ax,r_out_1,n_out_1,c_out_1) aO=>Chg (ins [aB,aG,al]) aL aO∧Own aO r_out_0 3 (nin (ge w.heap.size) [al,r_out_1,r_out_0,ak,aj,ai]) n_out_0 c_out_0 au∧OrB r_out_0 aB aL.heap.size∧Own aO r_out_1 62 (nin (ge w.heap.size) [al,r_out_1,r_out_0,ak,aj,ai]) n_out_1 c_out_1 ax∧OrB r_out_1 aG aL.heap.size∧Nb r_out_1 r_out_0∧Box aO al 48 [vS r_out_0 n_out_0 c_out_0,vS r_out_1 n_out_1 c_out_1]∧(1≤j)∧(j≤7)∧(au.length≤j)∧(ax.length≤j)∧(au=(BJ 0 (BT a b (j - 1))).1)∧(ax=(BJ 0 (BT a b (j - 1))).2)∧(okM a b (j - 1)=true)) (fun (j,au,r_out_0,n_out_0,c_out_0,ax,r_out_1,n_out_1,c_out_1)=>7 - j) AA ⟨AA,AA,AA,AA,AA,trivial⟩ ⟨Chg.refl _ _,aD,Dv,aN,Dv,dv,aU,AB,AB,(by (simp; done)),(by (simp; done)),AF,AF,AF⟩ ?_
 rintro ⟨j,au,r_out_0,n_out_0,c_out_0,ax,r_out_1,n_out_1,c_out_1⟩ eG aO ⟨af,ag,aq,ae,ar,bi,ah,dJ,dK,dL,dM,dN,dO,dP⟩ aP
 have dQ:=CZ aq db aa.lt
 have dR:=CZ aq de ab.lt
 have dS:=CZ aq df ac.lt
 have b9:=CZ aq (Nb.symm b6) aU.lt
 have cd:=Ii aq dh E.size
 have dT:=Cm aq dj E.size
 have dU:=CZ ar dq aa.lt
 have dV:=CZ ar dt ab.lt
 have dW:=CZ ar du ac.lt
 have ce:=CZ ar (Nb.symm b7) aU.lt
 have cg:=Ii ar dw E.size
 have dX:=Cm ar dx E.size
 have ci:Cov (ins [aB,aG,al]) aL aB:=⟨.inl AI⟩
 have cj:Cov (ins [aB,aG,al]) aL aG:=⟨.inl AJ⟩
 have dY:Cov (ins [aB,aG,al]) aL al:=⟨.inl AK⟩
 have dZ:=Cm aq ci (Nat.le_refl _)
 have d0:=Cm ar cj (Nat.le_refl _)
 have bj:Mv [al,aG,aB,ak,aj,ai] [al,r_out_1,r_out_0,ak,aj,ai] aL aO:=Mv.inl af (all_cons AK (all_cons AJ (all_cons AI all_nil))) (all_cons (.inl AI) (all_cons (FA ar AJ) (all_cons (FA aq AK) (all_cons (.inl AL) (all_cons (.inl AM) (all_cons (.inl AN) all_nil))))))
 replace ⟨h1,h2,h3,h4,aa,ab,ac,E⟩:=(sp bj af).g8 h1 h2 h3 h4 aa ab ac E
 have d3:=ag.len; have d4:=ag.max
 have d5:=ae.len; have d6:=ae.max
 refine .s<|.s<|.g<|.r 1<|.bp ((j:Int)≤6) (fun ck=>?_) (fun ck=>?_)
 ·refine .d<|.ct<|.sk<|.s<|.b 1<|.s<|.gd nil 11 fun eH bk=>?_
  replace ⟨h1,h2,h3,h4,aa,ab,ac,ag,ae,ah,E,af⟩:=(se [al,r_out_1,r_out_0,ak,aj,ai] bk).g12 h1 h2 h3 h4 aa ab ac ag ae ah E af
  refine .ln 0 aa id<|.r [1]<|.ln 3 ab id<|.r [4]<|.go 2<|.cl (fun bm aQ=>FQ a (j:Int) (h1.ta.ext aQ) (h2.ta.ext aQ) (by exact p0) (w:=bm) (F:=all)) ?_
  intro bm aQ
  replace ⟨h3,h4,aa,ab,ac,ag,ae,ah,E,af⟩:=(se [al,r_out_1,r_out_0,ak,aj,ai] aQ).g10 h3 h4 aa ab ac ag ae ah E af
  rintro eI eJ ⟨⟨eK,eL,rfl,aJ⟩,aV⟩
  have bn:=al6 ah.lt ae.lt ag.lt ac.lt ab.lt aa.lt
  have cm:Gb w.heap.size bm.heap.size:=E.size
  have hkeep_:=aV
  replace ⟨h3,h4,aa,ab,ac,ag,ae,ah,E,af⟩:=(se [al,r_out_1,r_out_0,ak,aj,ai] aV).g10 h3 h4 aa ab ac ag ae ah E af
  refine ⟨Ext.chg hkeep_,?_⟩
  have aJ:=aJ.fr bn cm
  refine .go 5<|.cl (fun bo aR=>FQ b (j:Int) (h3.ta.ext aR) (h4.ta.ext aR) (by exact p1) (w:=bo) (F:=all)) ?_
  intro bo aR
  replace ⟨aa,ab,ac,ag,ae,ah,aJ,E,af⟩:=(se [al,r_out_1,r_out_0,ak,aj,ai] aR).g9 aa ab ac ag ae ah aJ E af
  rintro eM eN ⟨⟨eO,eP,rfl,aY⟩,aW⟩
  have bq:=al6 ah.lt ae.lt ag.lt ac.lt ab.lt aa.lt
  have co:Gb w.heap.size bo.heap.size:=E.size
  have hkeep_:=aW
  replace ⟨aa,ab,ac,ag,ae,ah,aJ,E,af⟩:=(se [al,r_out_1,r_out_0,ak,aj,ai] aW).g9 aa ab ac ag ae ah aJ E af
  refine ⟨Ext.chg hkeep_,?_⟩
  have aY:=aY.fr bq co
  refine .go 6<|.cl (fun br aS=>IN (BF a (j:Int)) (BF b (j:Int)) (aJ.ta.ext aS) (aY.ta.ext aS) (by exact Lu p0 _) (by exact Lu p1 _) (w:=br) (F:=all)) ?_
  intro br aS
  replace ⟨aa,ab,ac,ag,ae,ah,E,af⟩:=(se [al,r_out_1,r_out_0,ak,aj,ai] aS).g8 aa ab ac ag ae ah E af
  rintro eQ eR ⟨⟨eS,rfl,⟨dy,dz,rfl,ao⟩⟩,aX⟩
  have bt:=al6 ah.lt ae.lt ag.lt ac.lt ab.lt aa.lt
  have cp:Gb w.heap.size br.heap.size:=E.size
  have hkeep_:=aX
  replace ⟨aa,ab,ac,ag,ae,ah,E,af⟩:=(se [al,r_out_1,r_out_0,ak,aj,ai] aX).g8 aa ab ac ag ae ah E af
  refine ⟨Ext.chg hkeep_,?_⟩
  have ao:=ao.fr bt cp
  refine .r [7,8] ?_
  cases ec:(CC (BF a (j:Int)) (BF b (j:Int))).2
  ·refine .r [9,10]<|.d fun eT bu=>?_
   replace ⟨aa,ab,ac,ag,ae,ah,ao,E,af⟩:=(se [al,r_out_1,r_out_0,ak,aj,ai] bu).g9 aa ab ac ag ae ah ao E af
   refine .r 1<|.d<|.s<|.s<|.g<|.r 2<|.d<|.ct<|.s<|.g<|.r 1<|.sc [AH,AH] ac fun eU bv cq cr=>?_
   replace ⟨aa,ab,ag,ae,ah,ao,E⟩:=(so [al,r_out_1,r_out_0,ak,aj,ai] bv).g7 aa ab ag ae ah ao E
   exact .r 1<|.d<|.r2 func99 results99 (.bx cq) (.t (.bool false)) ⟨⟨_,(Bx rfl (AG (by exact (congrArg Prod.snd (Pe (k:=j) AB AB ‹_›)).symm))),(VS.of (y:=(⟨([]:List Int),([]:List (List Row))⟩:Prt)) ⟨_,rfl,⟨_,_,_,_,_,_,rfl,(RepS.BN _ _ none 0 AE),(RepS.BN _ _ none 0 AE)⟩⟩ (by exact (congrArg Prod.fst (Pe (k:=j) AB AB ‹_›)).symm))⟩,E⟩
  refine .r [9,10]<|.d fun eV bw=>?_
  replace ⟨aa,ab,ac,ag,ae,ah,ao,E,af⟩:=(se [al,r_out_1,r_out_0,ak,aj,ai] bw).g9 aa ab ac ag ae ah ao E af
  refine .r 1<|.d<|.s<|.s<|.g<|.r 2<|.d<|.cf<|.sk<|.s<|.g<|.r 2<|.bp (((((CC (BF a (j:Int)) (BF b (j:Int))).1).length):Int) > 0) (fun cu=>?_) (fun cu=>.d<|.cf<|.sk<|.ib 1<|.g<|.r 1<|.it ((j:Int)+1)<|.r 1<|.d<|aP (j+1,au,r_out_0,n_out_0,c_out_0,ax,r_out_1,n_out_1,c_out_1) _ _ ⟨AA,AA,AA,AA,AA,trivial⟩ ⟨af,ag,aq,ae,ar,bi,ah,AB,AB,AB,AB,(by exact Tt ‹_› ‹_› AB ‹_› ‹_› ‹_›),(by exact Tv ‹_› ‹_› AB ‹_› ‹_› ‹_›),(by exact Nh ‹_› AB ‹_›)⟩ (by (simp only []; omega)))
  refine .d<|.ct<|.s<|.g<|.r 1<|.lb ah<|.r 1<|.ns 1 3 [vI (j:Int)] fun bU eW ay bz cw cx=>?_
  have cy:=Ab ay aa.lt
  have cz:=Ab ay ab.lt
  have cA:=Ab ay ac.lt
  have bA:=Ab ay ag.lt
  have cB:=Ab ay ae.lt
  have cC:=Ab ay ah.lt
  have cD:=BV ay E.size
  replace ⟨aa,ab,ac,ag,ae,ah,ao,E,af⟩:=(se [al,r_out_1,r_out_0,ak,aj,ai] bz).g9 aa ab ac ag ae ah ao E af
  have aZ:nin (ge w.heap.size) [al,r_out_1,r_out_0,ak,aj,ai] bU∧bU≠r_out_0:=Dw cD (all_cons cC (all_cons cB (all_cons bA (all_cons cA (all_cons cz (all_cons cy all_nil)))))) bA
  refine RG.CW (T:=34) (ty:=34) (y:=(j:Int)) ag cw AA AA rfl aZ AB fun aM bV eX am aE bB=>?_
  have cE:=Bh aE (Nb.symm bi) ae.lt
  have ee:=Bh aE b9 ah.lt
  have cF:=HZ aE aq af.size
  replace ⟨aa,ab,ac,ae,ah,ao,E,af⟩:=(sa [al,r_out_1,r_out_0,ak,aj,ai] bB aE).g8 aa ab ac ae ah ao E af
  replace am:=am.rn r_out_0
  have ef:=am.len
  refine .r 1<|.ss 0 (vS aM (n_out_0+1) bV) ah fun eY bC az cG=>?_
  replace ⟨aa,ab,ac,am,ae,ao,E,af⟩:=(so [al,r_out_1,aM,ak,aj,ai] bC).g8 aa ab ac am ae ao E af
  refine .d<|.g<|.r 1<|.lb az<|.r 1<|.ns 1 62 [.slice dy (((CC (BF a (j:Int)) (BF b (j:Int))).1).length) dz] fun bW eZ aA bD cH cI=>?_
  have cJ:=Ab aA aa.lt
  have cK:=Ab aA ab.lt
  have cL:=Ab aA ac.lt
  have cM:=Ab aA am.lt
  have bE:=Ab aA ae.lt
  have cN:=Ab aA az.lt
  have cO:=BV aA E.size
  replace ⟨ac,am,ae,az,ao,E,af⟩:=(se [al,r_out_1,aM,ak,aj,ai] bD).g7 ac am ae az ao E af
  have ba:nin (ge w.heap.size) [al,r_out_1,aM,ak,aj,ai] bW∧bW≠r_out_1:=Dw cO (all_cons cN (all_cons bE (all_cons cM (all_cons cL (all_cons cK (all_cons cJ all_nil)))))) bE
  refine RG.CW (T:=46) (ty:=46) (y:=(CC (BF a (j:Int)) (BF b (j:Int))).1) ae cH AA AA ⟨_,_,_,rfl,ao.oi⟩ ba AB fun bF bX e7 aC aF bG=>?_
  have cP:=Bh aF (Nb.symm cE) am.lt
  have eh:=Bh aF ce az.lt
  have cQ:=HZ aF ar af.size
  replace ⟨ac,am,az,E,af⟩:=(sa [al,r_out_1,aM,ak,aj,ai] bG aF).g5 ac am az E af
  replace aC:=aC.rn r_out_1
  have ej:=aC.len
  refine .r 1<|.ss 1 (vS bF (n_out_1+1) bX) az fun e8 bH cR cS=>?_
  replace ⟨ac,am,aC,E,af⟩:=(so [al,bF,aM,ak,aj,ai] bH).g5 ac am aC E af
  exact .d<|.ib 1<|.g<|.r 1<|.it ((j:Int)+1)<|.r 1<|.d<|aP (j+1,(au++[(j:Int)]),aM,n_out_0+1,bV,(ax++[(CC (BF a (j:Int)) (BF b (j:Int))).1]),bF,n_out_1+1,bX) _ _ ⟨AA,AA,AA,AA,AA,trivial⟩ ⟨af,am,cF,aC,cQ,cP,cR,AB,AB,AB,AB,(by exact Ts ‹_› ‹_› AB ‹_› ‹_› ‹_›),(by exact Tu ‹_› ‹_› AB ‹_› ‹_› ‹_›),(by exact Nh ‹_› AB ‹_›)⟩ (by (simp only []; omega))
 refine .d<|.cf<|.x 0 rfl<|.s<|.g<|.ln ah<|.sc [vS r_out_0 n_out_0 c_out_0,vS r_out_1 n_out_1 c_out_1] ac fun bY bI cT cU=>?_
 replace ⟨ag,ae,E⟩:=(so [al,r_out_1,r_out_0,ak,aj,ai] bI).g3 ag ae E
 refine .r 1<|.d ?_
 have bJ:=ag.sl cd
 replace ae:=(sd bY [al,r_out_1,r_out_0,ak,aj,ai] r_out_0).g1 ae
 have dA:=ae.sl cg
 replace bJ:=(sd bY [al,r_out_1,ak,aj,ai] r_out_1).g1 bJ
 exact .r2 func99 results99 (.bx cT) (.t (.bool true)) ⟨⟨_,(Bx rfl (AG (by exact (Pg (k:=j) AB ‹_› ‹_› ‹_› ‹_› ‹_›).2))),(VS.of (y:=(⟨au,ax⟩:Prt)) ⟨_,rfl,⟨_,_,_,_,_,_,rfl,bJ.w1,dA.w1⟩⟩ (by exact (Pg (k:=j) AB ‹_› ‹_› ‹_› ‹_› ‹_›).1))⟩,E⟩
end Go.Proofs.YtggnnidleedpaaaGreat
namespace Go.Proofs.YtggnnidleedpaaaGreat
theorem Ni {P:Program}{T ty t:TypeId}{sz:Nat}{w:World}{r i c m c':Nat}{a2:Option Addr}{cs vs:List Value}(hT:FJ P T t sz=true) (hB:Box w r t cs) (hsrc:0< m→∃ x,a2=some x∧Has w x vs) (hvs:vs.length=m * sz) (hroom:i+m≤c) (hfit:i * sz+vs.length≤cs.length) (hone:∀ v∈vs,DS v=true) :
 ∃ w',(Builtin.append_ #[T,T] ty #[.slice (some ⟨r,0,none⟩) i c,.slice a2 m c']).run P w=.ok (.slice (some ⟨r,0,none⟩) (i+m) c) w'∧Box w' r t (BA cs (i * sz) vs)∧Chg (one r) w w':=by
 obtain ⟨g1,inf,z,hinf,hsz,_,_,_⟩:=Ep hT
 by_cases hm:m=0
 ·subst hm
  have:vs=[]:=List.length_eq_zero_iff.1 AB
  subst this
  refine ⟨w,F8 g1 hinf _ _ _ _ _ AB w,?_,Chg.refl _ _⟩
  unfold BA
  simpa using hB
 ·obtain ⟨x,rfl,hx⟩:=hsrc AB
  unfold Box at hB
  have hr:=run_append_room (P:=P) w T ty t inf g1 hinf r i c cs.toArray hB x m c' vs (by rw [hsz]; exact hvs) hx (fun u hu=>M0 (hone u hu)) hroom (by rw [hsz]; simpa using hfit)
  rw [hsz] at hr
  have hset:(w.setRow r (BA cs (i * sz) vs).toArray).heap[r]? = some (.cells (BA cs (i * sz) vs).toArray t (0,0)):=setRow_heap w r cs.toArray _ t _ hB
  refine ⟨_,hr,hset,⟨rfl,rfl,rfl,by simp [World.setRow],fun k _ hn=>setRow_other w r k _ hn⟩⟩
def Tw (P:Program) (T t:TypeId) (sz:Nat):Bool :=
 (match P.underlying T with | some (.slice e)=>Nat.beq e t | _=>false) &&
 (match P.info? t with | some i=>(match i.zero with | some z=>Nat.beq z.cells.size sz&&z.cells.toList.all DS | none=>false) | none=>false)
theorem Nj {P:Program}{T ty t:TypeId}{sz:Nat}{w:World}{r o c:Nat}{cs:List Value}(hT:Tw P T t sz=true) (hB:Box w r t cs) (hfit:o+sz≤cs.length) :
 ∃ vs w',(Builtin.clear_ #[T] ty #[.slice (some ⟨r,o,none⟩) 1 c]).run P w=.ok (.tuple #[]) w'∧vs.length=sz∧Box w' r t (BA cs o vs)∧Chg (one r) w w':=by
 unfold Tw at hT
 simp only [AW] at hT
 obtain ⟨h1,h2⟩:=hT
 split at h1
 ·rename_i e he
  have:=Nat.eq_of_beq_eq_true h1
  subst this
  split at h2
  ·rename_i inf hinf
   split at h2
   ·rename_i z hz
    simp only [AW,List.all_eq_true] at h2
    have hsz:=Nat.eq_of_beq_eq_true h2.1
    have hl:(Builtin.zeroCells z.cells 1).toList.length=sz:=by rw [Array.length_toList,size_zeroCells,hsz]; omega
    have ho:∀ v∈(Builtin.zeroCells z.cells 1).toList,DS v=true:=fun v hv=>by
     unfold Builtin.zeroCells at hv
     simp only [Array.toList_map,List.mem_map,Array.toList_range,List.mem_range] at hv
     obtain ⟨k,hk,rfl⟩:=hv
     have hk2:k % z.cells.size< z.cells.size:=Nat.mod_lt _ AB
     refine h2.2 _ ?_
     rw [getElem!_pos z.cells _ hk2]
     exact Array.getElem_mem_toList hk2
    obtain ⟨w',g1,g2,g3,_⟩:=hB.MA (P:=P) (Builtin.zeroCells z.cells 1).toList (o:=o) (i:=0) AB ho
    refine ⟨_,w',?_,hl,g2,g3⟩
    have hv:(zeroValue e).run P w=.ok z w:=by simp [zeroValue,typeInfo,hinf,hz,go_sem]
    unfold Builtin.clear_
    simp only [List.getElem?_toArray,List.getElem?_cons_zero]
    rw [AX (run_underlying he w)]
    simp only []
    rw [AX hv,AX g1]
    rfl
   ·cases h2
  ·cases h2
 ·cases h1
section
variable {P:Program} {n:Nat} {K:Env→World→Prop} {ops:Array Oper} {j:Nat} {e:Env} {w:World}
theorem RG.clear {ats:List TypeId}{ty:TypeId}{args:List Value}{v:Value}{w':World}(h:CX n ops j e=some (.clear,ats,ty,args))
 (hr:(Builtin.clear_ ats.toArray ty args.toArray).run P w=.ok v w') (H:RG P n K ops (j+1) (Ah e (Ad ops j).dst v) w'):RG P n K ops j e w:=by
 obtain ⟨hg,h⟩:=CN h
 refine RG.val (v:=v) hg ?_ H
 split at h
 ·rename_i c hop
  split at h
  ·rename_i b hcal
   simp only [Option.some.injEq,Prod.mk.injEq] at h
   obtain ⟨rfl,rfl,rfl,rfl⟩:=h
   have ha:(c.args.toList.map (ev e)).toArray=c.args.map (ev e):=by apply Array.toList_inj.1; simp
   rw [ha,Array.toArray_toList] at hr
   simp only [execOp,hop,resolve,hcal]
   exact AX hr
  ·cases h
 ·cases h
def WC (n:Nat) (ops:Array Oper) (j:Nat) (e:Env):Option (TypeId × Value × Value × Value × Value) :=
 bif CP n ops j e then
  match (Ad ops j).op with
  | .slice t x (some lo) (some hi) (some mx)=>some (t,ev e x,ev e lo,ev e hi,ev e mx)
  | _=>none
 else none
theorem RG.WE {t:TypeId}{sz:Nat}{a:Option Addr}{len cap:Nat}{k k2 k3:IntKind}{i1 i2 i3:Int}(l h' m:Nat) (h:WC n ops j e=some (t,.slice a len cap,.int k i1,.int k2 i2,.int k3 i3)) (ht:Jc P t sz=true) (e1:i1=(l:Int)) (e2:i2=(h':Int)) (e3:i3=(m:Int)) (hlh:l≤h') (hh:h'≤m) (hm:m≤cap)
 (H:∀ v,RG P n K ops (j+1) (Ah e (Ad ops j).dst v) w):RG P n K ops j e w:=by
 obtain ⟨hg,h⟩:=CN h
 unfold Jc at ht
 split at ht
 ·rename_i el hu
  split at ht
  ·rename_i inf hinf
   have hun:(underlying t).run P w=.ok (.slice el) w:=by simp [underlying,hu,go_sem]
   refine RG.val (v:=.slice (if m=l then a else a.map (·.add (l * inf.size))) (h' - l) (m - l)) hg ?_ (H _)
   split at h
   ·rename_i t' x lo hi mx hop
    simp only [Option.some.injEq,Prod.mk.injEq] at h
    obtain ⟨rfl,hx,hlo,hhi,hmx⟩:=h
    simp only [execOp,hop]
    refine AX ?_
    simp only [Option.map_some,hx,hlo,hhi,hmx]
    unfold Instr.sliceAt
    rw [AX hun]
    simp only []
    unfold Instr.slice
    rw [AX hun]
    simp only []
    have hb:(Instr.sliceBounds true len cap (some (.int k i1)) (some (.int k2 i2)) (some (.int k3 i3))).run P w=.ok (l,h',m) w:=by
     unfold Instr.sliceBounds
     simp only []
     rw [AX (EI e3 hm w),AX (EI e2 hh w),AX (EI e1 hlh w)]
     rfl
    rw [AX hb]
    simp only []
    rw [AX (show (sizeOf el).run P w=.ok inf.size w by simp [sizeOf,typeInfo,hinf,go_sem])]
    rfl
   ·cases h
  ·cases ht
 ·cases ht
end
theorem GA.WG {P:Program}{S:Nat→Prop}{n m:Nat}{L:Env→World→Prop}{ops:Array Oper}{l:List Nat}{e:Env}{w:World}{i:Nat}{t:TypeId}{sz r len cap:Nat}{lo hi:Option Value}(l' h':Nat) (hb:gB n m ops l i=true) (h:DE n ops i e=some (t,.slice (some ⟨r,0,none⟩) len cap,lo,hi)) (ht:Jc P t sz=true) (hlo:bnd lo 0 l') (hhi:bnd hi len h') (hlh:l'≤h') (hh:h'≤cap)
 (H:∀ a2 c2,(0< h' - l'→a2=some ⟨r,l' * sz,none⟩)→GA P S n m L ops (i::l) (Ah e (Ad ops i).dst (.slice a2 (h' - l') c2)) w):GA P S n m L ops l e w:=by
 refine GA.Jd hb (fun w=>?_) (H (if cap=l' then some ⟨r,0,none⟩ else some ⟨r,l' * sz,none⟩) (cap - l') (fun hp=>by rw [if_neg AB]))
 have h1:=Dl h (G5 ht hlo hhi hlh hh w)
 simp only [Option.map_some,add_lit,Nat.zero_add] at h1
 exact h1
theorem Own.VG {α:Type}[Rep α] {w:World}{r:Nat}{t:TypeId}{F:Nat→Prop}{n c:Nat}{xs:List α}(h:Own w r t F n c xs):∃ cs,Box w r t cs∧cs.length=c * Rep.sz α:=by
 obtain ⟨cur,h1,h2⟩:=h.row
 exact ⟨cur.toList,by unfold Box; simpa using h1,by simpa using h2⟩
theorem Own.R9 {α:Type}[Rep α] {w w':World}{r:Nat}{t:TypeId}{F:Nat→Prop}{n c i:Nat}{xs:List α}{cs cs':List Value}(h:Own w r t F n c xs) (hx:Chg (one r) w w') (hB:Box w r t cs) (hB':Box w' r t cs') (hl:cs'.length=c * Rep.sz α) (hi:i< n)
 (hp:∀ p,p< (n - 1) * Rep.sz α→cs'[p]? = if p< i * Rep.sz α then cs[p]? else cs[p+Rep.sz α]?):Own w' r t F (n - 1) c (xs.take i++xs.drop (i+1)):=by
 have hn:=h.len
 have hle:=h.le
 have hcap:=h.cap
 unfold Box at hB hB'
 refine ⟨by rw [List.length_append,List.length_take,List.length_drop]; omega,by omega,hcap,⟨cs'.toArray,hB',by simpa using hl⟩,fun k x hk=>?_⟩
 have hfr:∀ b,b< w.heap.size→F b∧b≠r→(F b∧b≠r)∧w'.heap[b]? = w.heap[b]? := fun b hb hF=>⟨hF,hx.block b hb (fun e=>hF.2 e)⟩
 have hk2:k< (xs.take i++xs.drop (i+1)).length:=(List.getElem?_eq_some_iff.1 hk).1
 rw [List.length_append,List.length_take,List.length_drop] at hk2
 by_cases hki:k< i
 ·rw [List.getElem?_append_left (by rw [List.length_take]; omega),List.getElem?_take,if_pos hki] at hk
  obtain ⟨c1,g1,g2⟩:=h.elem k x hk
  refine ⟨c1,Rep.frame g1 hfr,fun u v hv=>?_⟩
  have h3:=g2 u v hv
  have hu:u< Rep.sz α:=by have:=(List.getElem?_eq_some_iff.1 hv).1; rw [Rep.len g1] at this; exact this
  have hm:k * Rep.sz α+Rep.sz α≤i * Rep.sz α:=by rw [← Nat.succ_mul]; exact Nat.mul_le_mul_right _ hki
  have hm2:i * Rep.sz α≤(n - 1) * Rep.sz α:=Nat.mul_le_mul_right _ AB
  rw [add_lit] at h3 ⊢
  simp only [World.cell?,hB] at h3
  simp only [World.cell?,hB']
  have:=hp (k * Rep.sz α+u) AB
  rw [if_pos AB] at this
  simpa [this] using h3
 ·rw [List.getElem?_append_right (by rw [List.length_take]; omega),List.length_take,Nat.min_eq_left AB,List.getElem?_drop] at hk
  rw [show i+1+(k - i)=k+1 by omega] at hk
  obtain ⟨c1,g1,g2⟩:=h.elem (k+1) x hk
  refine ⟨c1,Rep.frame g1 hfr,fun u v hv=>?_⟩
  have h3:=g2 u v hv
  have hu:u< Rep.sz α:=by have:=(List.getElem?_eq_some_iff.1 hv).1; rw [Rep.len g1] at this; exact this
  have hm:k * Rep.sz α+Rep.sz α≤(n - 1) * Rep.sz α:=by rw [← Nat.succ_mul]; exact Nat.mul_le_mul_right _ AB
  have hm2:i * Rep.sz α≤k * Rep.sz α:=Nat.mul_le_mul_right _ AB
  rw [add_lit] at h3 ⊢
  simp only [World.cell?,hB] at h3
  simp only [World.cell?,hB']
  have:=hp (k * Rep.sz α+u) AB
  rw [if_neg AB] at this
  rw [Nat.succ_mul,show k * Rep.sz α+Rep.sz α+u=k * Rep.sz α+u+Rep.sz α by omega] at h3
  simpa [this] using h3
theorem Lv {cs v1 v2:List Value}{n c i sz:Nat}(hl:cs.length=c * sz) (hi:i< n) (hn:n≤c) (h1:v1=(cs.drop ((i+1) * sz)).take ((n - (i+1)) * sz)) (h2:v2.length=sz) :
 (BA (BA cs (i * sz) v1) ((n - 1) * sz) v2).length=c * sz∧∀ p,p< (n - 1) * sz→(BA (BA cs (i * sz) v1) ((n - 1) * sz) v2)[p]? = if p< i * sz then cs[p]? else cs[p+sz]? := by
 have m1:(i+1) * sz+(n - (i+1)) * sz=n * sz:=by rw [← Nat.add_mul]; congr 1; omega
 have m2:(n - 1) * sz+sz=n * sz:=by rw [← Nat.succ_mul]; congr 1; omega
 have m3:n * sz≤c * sz:=Nat.mul_le_mul_right _ hn
 have m4:(i+1) * sz=i * sz+sz:=Nat.succ_mul _ _
 have l1:v1.length=(n - (i+1)) * sz:=by rw [h1,List.length_take,List.length_drop]; omega
 have l2:(BA cs (i * sz) v1).length=c * sz:=by rw [D3 AB]; exact hl
 refine ⟨by rw [D3 AB]; exact l2,fun p hp=>?_⟩
 unfold BA
 rw [List.append_assoc,List.getElem?_append_left (by rw [List.length_take]; unfold BA at l2; omega),List.getElem?_take,if_pos hp,List.append_assoc]
 by_cases hpi:p< i * sz
 ·rw [if_pos hpi,List.getElem?_append_left (by rw [List.length_take]; omega),List.getElem?_take,if_pos hpi]
 ·rw [if_neg hpi,List.getElem?_append_right (by rw [List.length_take]; omega),List.length_take,Nat.min_eq_left AB,List.getElem?_append_left AB,h1,List.getElem?_take,if_pos AB,List.getElem?_drop]
  congr 1
  omega
variable {w:World} {F:Nat→Prop}
theorem Tx {x:Prt}{cs:List Value}(h:Rep.rep w F x cs):∀ v∈cs,DS v=true:=Rep.flat h
theorem Own.DS {w:World}{r:Nat}{t:TypeId}{F:Nat→Prop}{n c i:Nat}{xs:List Prt}{cs:List Value}(h:Own w r t F n c xs) (hB:Box w r t cs):∀ v,i+(n - i)≤n→v∈(cs.drop (i * 2)).take ((n - i) * 2)→Go.Proofs.YtggnnidleedpaaaGreat.DS v=true:=by
 intro v hin hv
 obtain ⟨k,hk⟩:=List.mem_iff_getElem?.1 hv
 rw [List.getElem?_take] at hk
 split at hk
 ·rename_i hlt
  rw [List.getElem?_drop] at hk
  have hn:=h.len
  have hj:i+k / 2< xs.length:=by omega
  obtain ⟨c1,g1,g2⟩:=h.elem (i+k / 2) xs[i+k / 2] (AU hj)
  have hl:c1.length=2:=Rep.len g1
  have hk2:k % 2< c1.length:=by omega
  have h3:=g2 (k % 2) c1[k % 2] (AU hk2)
  have hz:Rep.sz Prt=2:=rfl
  unfold Box at hB
  rw [add_lit,hz] at h3
  simp only [World.cell?,hB] at h3
  have e:(i+k / 2) * 2+k % 2=i * 2+k:=by omega
  rw [e] at h3
  have h4:cs[i * 2+k]? = some c1[k % 2]:=by simpa using h3
  rw [hk] at h4
  cases h4
  exact Tx g1 _ (List.getElem_mem hk2)
 ·cases hk
theorem QV:∀ (is:List Int) (bs:List (List Row)) (o:Option Int),Bo o is bs=true→is.length=bs.length→∀ b∈bs,Bf b=true:=by
 intro is
 induction is with
 | nil =>
   intro bs o _ hl b hb
   cases bs with
   | nil=>cases hb
   | cons c cs=>simp at hl
 | cons i is ih =>
   intro bs o h hl b hb
   cases bs with
   | nil=>cases hb
   | cons c cs =>
     unfold Bo at h
     simp only [AW] at h
     rcases List.mem_cons.1 hb with rfl | hb
     ·exact h.1.2
     ·exact ih cs (some i) h.2 (by simpa using hl) b hb
theorem Fj {p:Prt}(h:Au p=true) (id:Int):Bf (partOf p id)=true:=by
 rcases Ij id p.ids p.blocks with h1 | h1
 ·unfold partOf; rw [h1]; rfl
 ·unfold Au at h
  simp only [AW,decide_eq_true_eq] at h
  exact QV p.ids p.blocks none h.2 h.1 _ h1
theorem Oo {id t:Int}:∀ (ps:List Prt) (o:List Row),(∀ p∈ps,PrtI p)→Blk o→((look t o).isSome=true∨∃ p∈ps,(look t (partOf p id)).isSome=true)→(look t (ps.foldl (Bq id) o)).isSome=true:=by
 intro ps
 induction ps with
 | nil =>
   rintro o _ _ (h | ⟨p,hp,_⟩)
   ·exact h
   ·cases hp
 | cons p ps ih =>
   intro o hI ho h
   have hp:Blk (partOf p id):=(hI p AD).of id
   refine ih _ (fun q hq=>hI q (by simp [hq])) (ho.merge hp) ?_
   have e:look t (Bq id o p)=(look t (partOf p id)).or (look t o):=Ch t o ho hp
   rcases h with h | ⟨q,hq,h⟩
   ·refine .inl ?_
    rw [e]
    cases look t (partOf p id) with
    | none=>exact h
    | some x=>rfl
   ·rcases List.mem_cons.1 hq with rfl | hq
    ·refine .inl ?_
     rw [e]
     obtain ⟨x,hx⟩:=Option.isSome_iff_exists.1 h
     rw [hx]; rfl
    ·exact .inr ⟨q,hq,h⟩
theorem IP {p:Prt}{n:Int}(h:Bk p n=true):∀ i∈p.ids,i≤n:=by
 unfold Bk at h
 simp only [AW] at h
 obtain ⟨h1,h2⟩:=h
 unfold Au at h1
 simp only [AW,decide_eq_true_eq] at h1
 have key:∀ (is:List Int) (bs:List (List Row)) (o:Option Int),Bo o is bs=true→(∀ q,o=some q→∀ i∈is,q< i)∧∀ l,is.getLast? = some l→∀ i∈is,i≤l:=by
  intro is
  induction is with
  | nil=>intro bs o _; exact ⟨fun _ _ i hi=>(by cases hi),fun l hl=>(by simp at hl)⟩
  | cons x xs ih =>
    intro bs o hg
    cases bs with
    | nil=>simp [Bo] at hg
    | cons b bs =>
      simp only [Bo,AW] at hg
      obtain ⟨k1,k2⟩:=ih bs (some x) hg.2
      have hx:∀ q,o=some q→q< x:=fun q hq=>by
       have:=hg.1.1.1.2
       rw [hq] at this
       simpa using this
      refine ⟨fun q hq i hi=>?_,fun l hl i hi=>?_⟩
      ·rcases List.mem_cons.1 hi with rfl | hi
       ·exact hx q hq
       ·have:=k1 x rfl i hi; have:=hx q hq; omega
      ·cases hc:xs.getLast? with
       | none =>
         have:xs=[]:=List.getLast?_eq_none_iff.1 hc
         subst this
         simp at hl hi
         omega
       | some l2 =>
         have e:(x::xs).getLast? = some l2:=by rw [List.getLast?_cons,hc]; rfl
         rw [e] at hl
         cases hl
         rcases List.mem_cons.1 hi with rfl | hi
         ·have:=k1 i rfl l (List.mem_of_getLast? hc); omega
         ·exact k2 l hc i hi
 intro i hi
 cases hl:p.ids.getLast? with
 | none=>rw [hl] at h2; cases h2
 | some l =>
   rw [hl] at h2
   have:=(key p.ids p.blocks none h1.2).2 l hl i hi
   have h3:l≤n:=by simpa using h2
   omega
theorem JF {p:Prt}{id:Int}(h:∀ i∈p.ids,i< id):partOf p id=[]:=by
 have key:∀ (is:List Int) (bs:List (List Row)),(∀ i∈is,i< id)→Ba id is bs=[]:=by
  intro is
  induction is with
  | nil=>intro bs _; unfold Ba; rfl
  | cons i is ih =>
    intro bs h
    cases bs with
    | nil=>unfold Ba; rfl
    | cons b bs =>
      unfold Ba
      rw [if_neg (by have:=h i AD; simp; omega)]
      exact ih bs (fun j hj=>h j (by simp [hj]))
 exact key _ _ h
theorem Ku {s:Sto}(h:SD s) (hk:Ac s=true){x y:Prt}(hx:x∈s.parts) (hy:y∈s.parts):CB x y=(BC x y,true):=by
 have hK:=StoK.of h hk
 have ox:=(hK.part x hx).2
 have oy:=(hK.part y hy).2
 unfold CB
 rw [if_pos]
 refine ⟨ox,oy,?_⟩
 unfold okM
 rw [List.all_eq_true]
 intro i hi
 rw [List.mem_range] at hi
 have e1:BF x ((i:Int)+1)=partOf x ((i:Int)+1):=by unfold BF; rw [if_pos ox]
 have e2:BF y ((i:Int)+1)=partOf y ((i:Int)+1):=by unfold BF; rw [if_pos oy]
 rw [e1,e2]
 have b1:=Fj ox ((i:Int)+1)
 have b2:=Fj oy ((i:Int)+1)
 have hl:(Bb (partOf x ((i:Int)+1)) (partOf y ((i:Int)+1))).length≤24:=by
  unfold Ac at hk
  simp only [AW,decide_eq_true_eq,List.all_eq_true,List.mem_range,Ei] at hk
  by_cases hin:i< s.idx.names.length
  ·have bb:=(JW b1).merge (JW b2)
   have hP:Blk (s.parts.foldl (Bq ((i:Int)+1)) []):=Fi h.part Blk.nil
   refine Nat.le_trans (Md bb (b:=rowsOf s ((i:Int)+1)) ?_ (fun t ht=>?_)) (hk.2 i hin)
   ·exact (D6 0 _ s.mem _ hK.row hP).2
   ·refine PY hK _ t (.inl (Oo s.parts [] h.part Blk.nil (.inr ?_)))
    rw [Ch t _ (JW b1) (JW b2)] at ht
    cases hc:look t (partOf y ((i:Int)+1)) with
    | some q=>exact ⟨y,hy,by rw [hc]; rfl⟩
    | none=>rw [hc] at ht; exact ⟨x,hx,ht⟩
  ·have g:=fun p hp=>JF (p:=p) (id:=(i:Int)+1) (fun j hj=>by have:=IP (hk.1.1.2 p hp) j hj; omega)
   rw [g x hx,g y hy]
   decide
 unfold CC
 rw [if_pos ⟨b1,b2,by omega⟩]
theorem Kv {s:Sto}{i:Int}(_h:SD s) (hk:Ac s=true) (h1:inR i 0 ((s.parts.length:Int) - 2)=false):BM s i=(AZ s,false):=by
 rw [F3 hk]; exact KY h1
theorem Nk {s:Sto}{i:Int}{x y:Prt}(h:SD s) (hk:Ac s=true) (h1:inR i 0 ((s.parts.length:Int) - 2)=true) (hx:s.parts[i.toNat]? = some x) (hy:s.parts[(i+1).toNat]? = some y) :
 BM s i=(⟨(AZ s).idx,[]++(((AZ s).parts.set i.toNat (CB x y).1).take (i.toNat+1)++((AZ s).parts.set i.toNat (CB x y).1).drop (i.toNat+1+1)),(AZ s).mem⟩,true):=by
 have h2:=By h1
 have hx2:=(List.getElem?_eq_some_iff.1 hx).1
 rw [F3 hk]
 have e:=KZ (s:=AZ s) (a:=i) (x:=x) (y:=y) h1 hx hy
 rw [e,Ku h hk (AV hx) (AV hy)]
 have ep:(AZ s).parts=s.parts:=rfl
 rw [ep]
 have e2:(i+2).toNat=i.toNat+2:=by omega
 congr 2
 rw [e2,List.nil_append,List.nil_append,List.drop_zero,List.take_length]
 congr 1
 ·rw [List.take_add_one,List.take_set_of_le (Nat.le_refl _),List.getElem?_set_self (by exact hx2)]
  rfl
 ·rw [List.drop_set_of_lt AB]
end Go.Proofs.YtggnnidleedpaaaGreat
namespace Go.Proofs.YtggnnidleedpaaaGreat
set_option maxRecDepth 100000
set_option maxHeartbeats 4000000
variable {w:World} {F:Nat→Prop}
theorem Ju {r n c i:Nat}{xs:List Prt}{a b:Int}(ho:Own w r 48 F n c xs) (ha:a=(i:Int)) (hb:b=(i:Int)+1) (hi:i< n) (hn:n≤1000000):Calls Tryz.prog 100 [.slice (some ⟨r,0,none⟩) n c,.int .i64 a,.int .i64 b].toArray w (Am fun rv w'=>(rv=.slice (some ⟨r,0,none⟩) (n - 1) c∧Own w' r 48 F (n - 1) c (xs.take i++xs.drop (i+1)))∧Chg (one r) w w'):=by
 subst ha hb
 refine goT func100 ?_
 have hle:=ho.le
 obtain ⟨cs,hB,hl⟩:=ho.VG
 have hz:Rep.sz Prt=2:=rfl
 rw [hz] at hl
 refine .s<|.g<|.r 1<|.d<|.s<|.g<|.r 5<|RG.WE (t:=29) (k:=.i64) (k2:=.i64) (k3:=.i64) (a:=some ⟨r,0,none⟩) (len:=n) (cap:=c) (i1:=(i:Int)) (i2:=(i:Int)+1) (i3:=(n:Int)) (sz:=2) i (i+1) n AA AA rfl AB rfl AB AB hle fun v_=>.d<|.s<|.s<|.g<|.r 2<|.eq (i:Int) ((i:Int)+1) (fun h=>absurd (show False by omega) id) fun _=>.d<|.cf<|.sk<|.s<|.g<|.r 3<|.d<|.s<|.gd (one r) 7 fun w1 hx1=>?_
 refine .r [0,1]<|GA.HH (i:=2) (t:=29) (r:=r) (o:=0) (len:=n) (cap:=c) (lo:=none) (hi:=some (vI (i:Int))) (sz:=2) 0 i AA AA AA (.inl ⟨rfl,rfl⟩) (.inr ⟨_,_,rfl,rfl⟩) AB AB AB<|.r [3,4]<|GA.WG (i:=5) (t:=29) (r:=r) (len:=n) (cap:=c) (lo:=some (vI ((i:Int)+1))) (hi:=none) (sz:=2) (i+1) n AA AA AA (.inr ⟨_,_,rfl,by omega⟩) (.inl ⟨rfl,rfl⟩) AB AB fun a2 c2 h2=>?_
 refine .go 6<|GE.append (T:=29) (ty:=29) (args:=[.slice (some ⟨r,0,none⟩) i c,.slice a2 (n - (i+1)) c2]) AA fun w2 hx2=>?_
 have hx12:Ext w w2:=hx1.trans hx2
 have m1:(i+1) * 2+(n - (i+1)) * 2=n * 2:=by omega
 have hB2:=hB.ext hx12
 obtain ⟨w3,hr,hB3,hx3⟩:=Ni (P:=Tryz.prog) (T:=29) (ty:=29) (t:=48) (sz:=2) (i:=i) (c:=c) (m:=n - (i+1)) (c':=c2) (a2:=a2) (vs:=(cs.drop ((i+1) * 2)).take ((n - (i+1)) * 2)) AA hB2
  (fun hp=>⟨_,h2 hp,fun k u hu=>by
   rw [add_lit]
   unfold Box at hB2
   simp only [World.cell?,hB2]
   rw [List.getElem?_take] at hu
   split at hu
   ·rw [List.getElem?_drop] at hu
    simpa using hu
   ·cases hu⟩) (by rw [List.length_take,List.length_drop]; omega) AB (by rw [List.length_take,List.length_drop]; omega) (fun v hv=>ho.DS (i:=i+1) hB v AB hv)
 refine ⟨_,w3,hr,hx3,.d fun w4 hx4=>.r 1<|.d<|.s<|.g<|.r 4<|?_⟩
 have hB4:=hB3.ext hx4
 have hlen:i+(n - (i+1))=n - 1:=by omega
 rw [hlen]
 refine RG.HH (t:=29) (r:=r) (o:=0) (len:=n - 1) (cap:=c) (lo:=some (vI ((n - 1:Nat):Int))) (hi:=some (vI (n:Int))) (sz:=2) (n - 1) n AA AA (.inr ⟨_,_,rfl,rfl⟩) (.inr ⟨_,_,rfl,rfl⟩) AB AB AB ?_
 have h1:n - (n - 1)=1:=by omega
 rw [h1]
 have hl4:(BA cs (i * 2) ((cs.drop ((i+1) * 2)).take ((n - (i+1)) * 2))).length=c * 2:=by rw [D3 (by rw [List.length_take,List.length_drop]; omega)]; exact hl
 obtain ⟨vs,w5,hr5,hv5,hB5,hx5⟩:=Nj (P:=Tryz.prog) (T:=29) (ty:=0) (t:=48) (sz:=2) (o:=0+(n - 1) * 2) (c:=c - (n - 1)) AA hB4 AB
 rw [Nat.zero_add] at hB5
 have hd:=Lv (sz:=2) hl hi hle rfl hv5
 have hx:Chg (one r) w w5:=(((hx12.chg (S:=one r)).trans hx3).trans hx4.chg).trans hx5
 refine RG.clear (ats:=[29]) (ty:=0) (args:=[.slice (some ⟨r,0+(n - 1) * 2,none⟩) 1 (c - (n - 1))]) AA hr5<|.d<|.s<|.g<|.r 2<|.d<|.rt func100 results100 (.slice (some ⟨r,0,none⟩) (n - 1) c) ⟨⟨rfl,Own.R9 ho hx hB hB5 (by rw [hz]; exact hd.1) hi (by rw [hz]; exact hd.2)⟩,hx⟩
end Go.Proofs.YtggnnidleedpaaaGreat
namespace Go.Proofs.YtggnnidleedpaaaGreat
set_option maxRecDepth 100000
set_option maxHeartbeats 4000000
variable {w:World} {F:Nat→Prop} {a1 a2 a3 a4:Option Addr} {n1 c1 n2 c2 n3 c3 n4 c4:Nat}
set_option maxRecDepth 100000 in
set_option maxHeartbeats 4000000 in
theorem IQ (s:Sto) (at_:Int) (h1:RepS w F a1 n1 c1 s.idx.names) (h2:RepS w F a2 n2 c2 s.idx.AY) (h3:RepS w F a3 n3 c3 s.parts) (h4:RepS w F a4 n4 c4 s.mem) (p0:SD s):Calls Tryz.prog 58 [.agg #[.slice a1 n1 c1,.slice a2 n2 c2,.slice a3 n3 c3,.slice a4 n4 c4],.int .i64 at_].toArray w (Am fun rv w'=>(∃ v0,rv=.tuple #[v0,.bool ((BM s at_).2)]∧VS (fo F w.heap.size) w' ((BM s at_).1:Sto) v0)∧Ext w w'):=by
 refine goT func58 ?_
 obtain ⟨rfl,dW,h1⟩:=h1.tp
 obtain ⟨rfl,dX,h2⟩:=h2.tp
 obtain ⟨rfl,dY,h3⟩:=h3.tp
 obtain ⟨rfl,dZ,h4⟩:=h4.tp
 refine .s<|.g<|.np 32 [.slice a1 s.idx.names.length c1,.slice a2 s.idx.AY.length c2,.slice a3 s.parts.length c3,.slice a4 s.mem.length c4] fun ai eX bJ ba ab cR=>?_
 replace ⟨h1,h2,h3,h4⟩:=(sn [] ba bJ).g4 h1 h2 h3 h4
 have E:=ba
 refine .np 32 [AH,AH,AH,AH] fun ak dw aU bK ae cS=>?_
 have d0:=Ab aU ab.lt
 have d3:=E.cn aU
 replace ⟨h1,h2,h3,h4,ab,E⟩:=(sn [ai] bK aU).g6 h1 h2 h3 h4 ab E
 refine .r 1<|.d<|.s<|.s<|.g<|.ln ab<|.cl (D5 s h1.ta h2.ta h3.ta h4.ta p0 (w:=dw) (F:=all)) ?_
 rintro eY b0 ⟨rfl,bL⟩
 replace ⟨h1,h2,h3,h4,ab,ae,E⟩:=(se [ak,ai] bL).g7 h1 h2 h3 h4 ab ae E
 cases d4:(Ac s)
 ·refine .r 1<|.d<|.ct<|.s<|.g<|.r 1<|.sc [AH,AH,AH,AH] ae fun eZ bM cT cU=>?_
  replace ⟨h1,h2,h3,h4,ab,E⟩:=(so [ak,ai] bM).g6 h1 h2 h3 h4 ab E
  exact .r 1<|.d<|.r2 func58 results58 (.bx cT) (.t (.bool false)) ⟨⟨_,(Bx rfl (AG (by rw [JE ‹_›]))),(VS.of (y:=(⟨(⟨([]:List (List Tag)),([]:List Pst)⟩:Idx),([]:List Prt),([]:List Smp)⟩:Sto)) ⟨_,rfl,⟨_,_,_,_,_,_,_,_,_,_,_,_,rfl,(RepS.BN _ _ none 0 AE),(RepS.BN _ _ none 0 AE),(RepS.BN _ _ none 0 AE),(RepS.BN _ _ none 0 AE)⟩⟩ (by rw [JE ‹_›]))⟩,E⟩
 refine .r 1<|.d<|.cf<|.sk<|.s<|.g<|.ln ab<|.cl (CV s h1.ta h2.ta h3.ta h4.ta p0.nm p0.nd p0.sz (w:=b0) (F:=all)) ?_
 rintro e7 bd ⟨⟨b6,e8,b7,b8,fa,b9,al,aY,cV,aj,cd,ce,rfl,af,ag,ah,aE,aa,aK,d5⟩,bg⟩
 have aL:=al2 ae.lt ab.lt
 have aV:Gb w.heap.size b0.heap.size:=E.size
 have bN:=CD aE ab.lt
 have d6:=CD aE ae.lt
 have bO:=FV aE E.size
 have d7:Cov nil w al:=KN aE E.size
 have bP:=CD aK ab.lt
 have d8:=CD aK ae.lt
 have bQ:=FV aK E.size
 have bR:Mv [ak,ai] [al,aj,ak,ai] b0 bd:=Mv.cons (Mv.cons (Mv.ext bg) aK) aE
 replace ⟨h3,ab,ae,E⟩:=(sp bR bg).g4 h3 ab ae E
 replace af:RepS bd (nin (ge w.heap.size) [al,aj,ak,ai]) _ _ _ _:=RepS.Ck (s0:=w.heap.size) (M:=[ak,ai]) af aL aV
 replace af:=af.base (G':=fo F w.heap.size) (fun _ _ h=>.inr h)
 have d9:=af.max
 replace ag:RepS bd (nin (ge w.heap.size) [al,aj,ak,ai]) _ _ _ _:=RepS.Ck (s0:=w.heap.size) (M:=[ak,ai]) ag aL aV
 replace ag:=ag.base (G':=fo F w.heap.size) (fun _ _ h=>.inr h)
 have ec:=ag.max
 replace ah:Own bd al 48 (nin (ge w.heap.size) [al,aj,ak,ai]) _ _ _:=Own.Ck (s0:=w.heap.size) (M:=[ak,ai]) ah aL aV
 replace ah:=ah.base (G':=fo F w.heap.size) (fun _ _ h=>.inr h)
 have ee:=ah.max
 have ef:=ah.len
 replace aa:Own bd aj 85 (nin (ge w.heap.size) [al,aj,ak,ai]) _ _ _:=Own.Ck (s0:=w.heap.size) (M:=[ak,ai]) aa aL aV
 replace aa:=aa.base (G':=fo F w.heap.size) (fun _ _ h=>.inr h)
 have cW:=af.len
 subst cW
 have cX:=ag.len
 subst cX
 refine .np 32 [AH,AH,AH,AH] fun am fb ay bS cY cZ=>?_
 have ej:=Ab ay ab.lt
 have ek:=Ab ay ae.lt
 have c7:=Ab ay ah.lt
 have cg:=Ab ay aa.lt
 have dx:=E.cn ay
 replace ⟨h3,ab,ae,af,ag,ah,aa,E⟩:=(sn [al,aj,ak,ai] bS ay).g8 h3 ab ae af ag ah aa E
 refine .sc [.slice b6 (((((AZ s)).idx).names).length) b7,.slice b8 (((((AZ s)).idx).AY).length) b9,vS al aY cV,vS aj cd ce] cY fun c8 bh ac ci=>?_
 replace ⟨h3,ab,ae,af,ag,ah,aa,E⟩:=(so [am,al,aj,ak,ai] bh).g8 h3 ab ae af ag ah aa E
 refine .d<|.s<|.s<|.g<|.r 2<|.lb ab<|.r 1<|RG.int ((s.parts.length:Int) - 2) AA (by have:=p0.np; omega)<|.cl (Bv at_ 0 ((s.parts.length:Int) - 2) (w:=c8) (F:=all)) ?_
 rintro en aN ⟨rfl,bi⟩
 replace ⟨h3,ab,ae,af,ag,ah,aa,ac,E⟩:=(se [am,al,aj,ak,ai] bi).g9 h3 ab ae af ag ah aa ac E
 cases bj:(inR at_ 0 ((s.parts.length:Int) - 2))
 ·refine .r 1<|.d<|.ct<|.s<|.g<|.ln ac<|.sc [.slice b6 (((((AZ s)).idx).names).length) b7,.slice b8 (((((AZ s)).idx).AY).length) b9,vS al aY cV,vS aj cd ce] ae fun bT bk cj ck=>?_
  replace ⟨h3,ab,af,ag,ah,aa,ac,E⟩:=(so [am,al,aj,ak,ai] bk).g8 h3 ab af ag ah aa ac E
  refine .r 1<|.d ?_
  have bm:=ah.sl (.inr bO)
  replace ⟨h3,af,ag,aa⟩:=(sd bT [am,al,aj,ak,ai] al).g4 h3 af ag aa
  have c9:=aa.sl (.inr bQ)
  replace ⟨h3,af,ag,bm⟩:=(sd bT [am,aj,ak,ai] aj).g4 h3 af ag bm
  exact .r2 func58 results58 (.bx cj) (.t (.bool false)) ⟨⟨_,(Bx rfl (AG (by rw [Kv p0 ‹_› ‹_›]))),(VS.of (y:=(⟨(⟨(((AZ s)).idx).names,(((AZ s)).idx).AY⟩:Idx),((AZ s)).parts,((AZ s)).mem⟩:Sto)) ⟨_,rfl,⟨_,_,_,_,_,_,_,_,_,_,_,_,rfl,af.w1,ag.w1,bm.w1,c9.w1⟩⟩ (by rw [Kv p0 ‹_› ‹_›]))⟩,E⟩
 have dz:=By bj
 refine .r 1<|.d<|.cf<|.sk<|.s ?_
 replace h3:=h3.Cn
 replace af:=af.Cn
 replace ag:=ag.Cn
 have bn:Gb (ai+1) aN.heap.size:=ab.lt
 have cm:Cov (mtb [al,aj] aN.heap.size) aN al:=⟨.inl (.inl AI)⟩
 have co:Gb (am+1) aN.heap.size:=ac.lt
 refine .gd (mtb [al,aj] aN.heap.size) 20 fun ey bo=>?_
 replace ⟨h3,ab,ae,af,ag,ah,aa,ac,E⟩:=(se [am,al,aj,ak,ai] bo).g9 h3 ab ae af ag ah aa ac E
 refine .r [0]<|.lb 1 ac (Cz (all_cons c7 (all_cons cg all_nil)) co)<|.r [2,3]<|.lb 4 ab (Cz (all_cons (Nb.symm bN) (all_cons (Nb.symm bP) all_nil)) bn)<|.r [5] ?_
 have bq:at_.toNat< s.parts.length:=(by have q2:=By ‹_›; have q3:(AZ s).parts.length=s.parts.length:=rfl; omega)
 refine GA.idx (i:=6) (at_.toNat) (len:=s.parts.length) (z:=at_) (sz:=2) AA (by have q2:=By ‹_›; omega) bq (h3.addr (Nat.zero_lt_of_lt bq)) ?_
 obtain ⟨az,aH⟩:∃ y,s.parts[at_.toNat]? = some y:=⟨_,AU (by have q2:=By ‹_›; omega)⟩
 have da:=AV aH
 obtain ⟨_,⟨ez,eA,eB,eC,eD,eE,rfl,br,bt⟩,cp⟩:=h3.elem (at_.toNat) az aH
 have cq:=br.len
 subst cq
 have cr:=bt.len
 subst cr
 refine .lg 7 0 cp (h3.nS (KM aH) (all_cons AJ (all_cons AK all_nil)))<|.r [8]<|.lb 9 ab (Cz (all_cons (Nb.symm bN) (all_cons (Nb.symm bP) all_nil)) bn)<|.r [10]<|GA.int (i:=11) (at_+1) AA (by have:=p0.np; omega) ?_
 have bu:(at_+1).toNat< s.parts.length:=(by have q2:=By ‹_›; have q3:(AZ s).parts.length=s.parts.length:=rfl; omega)
 refine GA.idx (i:=12) ((at_+1).toNat) (len:=s.parts.length) (z:=at_+1) (sz:=2) AA (by have q2:=By ‹_›; omega) bu (h3.addr (Nat.zero_lt_of_lt bu)) ?_
 obtain ⟨aA,aI⟩:∃ y,s.parts[(at_+1).toNat]? = some y:=⟨_,AU (by have q2:=By ‹_›; omega)⟩
 have db:=AV aI
 obtain ⟨_,⟨eF,eG,eH,eI,eJ,eK,rfl,bv,bw⟩,cu⟩:=h3.elem ((at_+1).toNat) aA aI
 have cw:=bv.len
 subst cw
 have cx:=bw.len
 subst cx
 refine .lg 13 0 cu (h3.nS (KM aI) (all_cons AJ (all_cons AK all_nil)))<|.go 14<|.cl (fun bz ax=>EM az aA (br.ta.ext ax) (bt.ta.ext ax) (bv.ta.ext ax) (bw.ta.ext ax) (by exact (p0.part _ ‹_›).sz) (by exact (p0.part _ ‹_›).sz) (w:=bz) (F:=all)) ?_
 intro bz ax
 replace ⟨ab,ae,af,ag,ah,aa,ac,E⟩:=(se [am,al,aj,ak,ai] ax).g8 ab ae af ag ah aa ac E
 rintro eL de ⟨⟨eM,rfl,⟨_,rfl,⟨df,eN,dh,dj,eO,dm,rfl,aB,aC⟩⟩⟩,aP⟩
 have aQ:=al5 ac.lt ah.lt aa.lt ae.lt ab.lt
 have bA:Gb w.heap.size bz.heap.size:=E.size
 have hkeep_:=aP
 replace ⟨ab,ae,af,ag,ah,aa,ac,E⟩:=(se [am,al,aj,ak,ai] aP).g8 ab ae af ag ah aa ac E
 refine ⟨Ext.chg hkeep_,?_⟩
 have aB:=aB.fr aQ bA
 replace aB:=aB.base (G':=fo F w.heap.size) (fun _ _ h=>.inr h)
 have dG:=aB.max
 have aC:=aC.fr aQ bA
 replace aC:=aC.base (G':=fo F w.heap.size) (fun _ _ h=>.inr h)
 have dH:=aC.max
 have cy:=aB.len
 subst cy
 have cz:=aC.len
 subst cz
 refine .r [15,16,17] ?_
 have cA:at_.toNat< aY:=(by have q2:=By ‹_›; have q3:(AZ s).parts.length=s.parts.length:=rfl; omega)
 refine GA.idx (i:=18) (b:=al) (o:=0) (at_.toNat) (len:=aY) (z:=at_) (sz:=2) AA (by have q2:=By ‹_›; omega) cA rfl<|.go 19 ?_
 obtain ⟨aO,aJ⟩:∃ y,(((AZ s)).parts)[at_.toNat]? = some y:=⟨_,AU (by have q2:=By ‹_›; omega)⟩
 obtain ⟨_,⟨bU,eP,bV,bW,eQ,bX,rfl,aW,aX⟩,aR⟩:=ah.elem (at_.toNat) aO aJ
 replace aW:=aW.Bl (fun _ _ h=>h.1)
 replace aX:=aX.Bl (fun _ _ h=>h.1)
 have cB:=aW.len
 subst cB
 have cC:=aX.len
 subst cC
 replace aR:Has de ⟨al,0+(at_.toNat) * Rep.sz Prt,none⟩ [.slice bU aO.ids.length bV,.slice bW aO.blocks.length bX]:=by rw [Nat.zero_add]; exact aR
 refine GE.EH (t':=48) (q:=(at_.toNat)) (k:=0) (v:=.agg #[.slice df ((CB az aA).1.ids.length) dh,.slice dj ((CB az aA).1.blocks.length) dm]) (cs:=[.slice bU aO.ids.length bV,.slice bW aO.blocks.length bX]) ((CB az aA).1) ah aJ aR ⟨_,_,_,_,_,_,rfl,aB.oi,aC.oi⟩ AA AA AA fun eR bB=>?_
 replace ⟨ab,ae,af,ag,aa,ac,E⟩:=(se [am,al,aj,ak,ai] bB).g7 ab ae af ag aa ac E
 intro eS au aS cD
 have hkeep_:=Chg.toS aS (Cov.toS cm)
 replace ⟨ab,ae,af,ag,aa,ac,E⟩:=(so [am,al,aj,ak,ai] aS).g7 ab ae af ag aa ac E
 refine ⟨hkeep_,?_⟩
 refine .d fun eT bC=>?_
 replace ⟨ab,ae,af,ag,au,aa,ac,E⟩:=(se [am,al,aj,ak,ai] bC).g8 ab ae af ag au aa ac E
 replace af:=af.BL
 replace ag:=ag.BL
 refine .d<|.s<|.g<|.ns 0 48 [] fun aF dq ao bD cE cF=>?_
 have cG:=Ab ao ab.lt
 have cH:=Ab ao ae.lt
 have dL:=Ab ao au.lt
 have cI:=Ab ao aa.lt
 have cJ:=Ab ao ac.lt
 have cK:=BV ao E.size
 have dM:=E.cn ao
 replace ⟨ab,ae,af,ag,au,aa,ac,E⟩:=(sn [am,al,aj,ak,ai] bD ao).g8 ab ae af ag au aa ac E
 have aD:Own (α:=Prt) dq aF 48 (nin (fo F w.heap.size) [aF,am,al,aj,ak,ai]) 0 0 []:=Own.BN cE
 refine .r 1<|.lb ac<|.r 1<|RG.int (at_+1) AA (by have:=p0.np; omega)<|.r 1<|RG.int (at_+2) AA (by have:=p0.np; omega) ?_
 have cL:=au.len; rw [List.length_set] at cL
 refine .cl (Ju (i:=(at_.toNat+1)) (a:=at_+1) (b:=at_+2) au (by have q2:=By ‹_›; omega) (by have q2:=By ‹_›; omega) (by have q2:=By ‹_›; have q3:(AZ s).parts.length=s.parts.length:=rfl; omega) (by have q2:=By ‹_›; have q3:(AZ s).parts.length=s.parts.length:=rfl; have q4:=p0.np; omega)) ?_
 rintro eU dt ⟨⟨rfl,aT⟩,bE⟩
 replace ⟨ab,ae,af,ag,aa,ac,aD,E⟩:=(so [aF,am,al,aj,ak,ai] bE).g8 ab ae af ag aa ac aD E
 have dO:=aT.len; have dP:=aT.max
 have du:=aT.sl (.inr bO)
 replace ⟨af,ag,aa,aD⟩:=(sd dt [aF,am,al,aj,ak,ai] al).g4 af ag aa aD
 refine RG.O8 (T:=29) (ty:=29) aD du AA AA (fun b _ h=>OE AI h) (by have q1:=p0.np; have q2:(AZ s).parts.length=s.parts.length:=rfl; omega) fun aG bY eV aq ar bF=>?_
 have dQ:=Bh ar cG ab.lt
 have dR:=Bh ar cH ae.lt
 have dS:=Bh ar cI aa.lt
 have dT:=Bh ar cJ ac.lt
 have cM:=ES ar cK E.size
 replace ⟨ae,af,ag,aa,ac,E⟩:=(sa [aF,am,aj,ak,ai] bF ar).g6 ae af ag aa ac E
 replace aq:=aq.rn aF
 refine .r 1<|.ss 2 (vS aG (0+(aY - 1)) bY) ac fun eW bG cN cO=>?_
 replace ⟨ae,af,ag,aa,aq,E⟩:=(so [aG,am,aj,ak,ai] bG).g6 ae af ag aa aq E
 refine .d<|.s<|.g<|.ln cN<|.sc [.slice b6 (((((AZ s)).idx).names).length) b7,.slice b8 (((((AZ s)).idx).AY).length) b9,vS aG (0+(aY - 1)) bY,vS aj cd ce] ae fun bZ bH cP cQ=>?_
 replace ⟨af,ag,aa,aq,E⟩:=(so [aG,am,aj,ak,ai] bH).g5 af ag aa aq E
 refine .r 1<|.d ?_
 have bI:=aq.sl (.inr cM)
 replace ⟨af,ag,aa⟩:=(sd bZ [aG,am,aj,ak,ai] aG).g3 af ag aa
 have dv:=aa.sl (.inr bQ)
 replace ⟨af,ag,bI⟩:=(sd bZ [am,aj,ak,ai] aj).g3 af ag bI
 exact .r2 func58 results58 (.bx cP) (.t (.bool true)) ⟨⟨_,(Bx rfl (AG (by exact (congrArg Prod.snd (Nk p0 ‹_› ‹_› ‹_› ‹_›)).symm))),(VS.of (y:=(⟨(⟨(((AZ s)).idx).names,(((AZ s)).idx).AY⟩:Idx),([]++(((((AZ s)).parts).set (at_.toNat) ((CB az aA).1)).take (at_.toNat+1)++((((AZ s)).parts).set (at_.toNat) ((CB az aA).1)).drop ((at_.toNat+1)+1))),((AZ s)).mem⟩:Sto)) ⟨_,rfl,⟨_,_,_,_,_,_,_,_,_,_,_,_,rfl,af.w1,ag.w1,bI.w1,dv.w1⟩⟩ (by exact (congrArg Prod.fst (Nk p0 ‹_› ‹_› ‹_› ‹_›)).symm))⟩,E⟩
end Go.Proofs.YtggnnidleedpaaaGreat
namespace Go.Proofs.YtggnnidleedpaaaGreat
theorem Nn:DU []=true:=by decide
theorem Lw {s:Sto}(h:SD s) (hk:Ac s=true){id:Int}{p:List Tag→Bool}(hid:id∈BG p 0 s.idx.names) (lo hi:Int):GR (HU s id) lo hi=LK (rowsOf s id) lo hi:=by
 have:=D7 hid
 rw [Ry hk this.1 this.2,JC h hk this.1 this.2]
def C7 (s:Sto) (f:List Cnd) (lo hi:Int) (i k:Nat):Prop:=((BG (Bt f) 0 s.idx.names).drop i).flatMap (Dk s lo hi)=(Bd s f lo hi).drop k
theorem C7.start {s:Sto}{f:List Cnd}{lo hi:Int}(h:SD s) (hk:Ac s=true):C7 s f lo hi 0 0:=by
 unfold C7
 rw [R2 h hk]
 rfl
theorem C7.skip {s:Sto}{f:List Cnd}{lo hi:Int}{i k:Nat}{id:Int}(h:C7 s f lo hi i k) (hs:SD s) (hk:Ac s=true) (hd:(BG (Bt f) 0 s.idx.names).drop i=id::(BG (Bt f) 0 s.idx.names).drop (i+1)) (hl:((GR (HU s id) lo hi).length:Int)=0):C7 s f lo hi (i+1) k:=by
 have hm:id∈BG (Bt f) 0 s.idx.names:=List.mem_of_mem_drop (by rw [hd]; simp)
 rw [Lw hs hk hm] at hl
 unfold C7 at h ⊢
 rw [hd,List.flatMap_cons] at h
 have e:Dk s lo hi id=[]:=by unfold Dk; rw [if_neg AB]
 rw [e,List.nil_append] at h
 exact h
theorem C7.hit {s:Sto}{f:List Cnd}{lo hi:Int}{i k:Nat}{id:Int}(h:C7 s f lo hi i k) (hs:SD s) (hk:Ac s=true) (hd:(BG (Bt f) 0 s.idx.names).drop i=id::(BG (Bt f) 0 s.idx.names).drop (i+1)) (hl:((GR (HU s id) lo hi).length:Int)≠0){n:List Tag}(hn:s.idx.names[(id - 1).toNat]? = some n) :
 (Bd s f lo hi)[k]? = some ⟨GK n,GR (HU s id) lo hi⟩∧C7 s f lo hi (i+1) (k+1):=by
 have hm:id∈BG (Bt f) 0 s.idx.names:=List.mem_of_mem_drop (by rw [hd]; simp)
 rw [Lw hs hk hm] at hl ⊢
 unfold C7 at h ⊢
 rw [hd,List.flatMap_cons] at h
 have e:Dk s lo hi id=[⟨GK n,LK (rowsOf s id) lo hi⟩]:=by
  unfold Dk
  rw [if_pos AB,List.getD_eq_getElem?_getD,hn,Ks (hs.nm.ok n (AV hn))]
  rfl
 rw [e,List.cons_append,List.nil_append] at h
 constructor
 ·have:=congrArg (fun l=>l[0]?) h
  simp only [List.getElem?_cons_zero,List.getElem?_drop,Nat.add_zero] at this
  exact this.symm
 ·have:=congrArg List.tail h
  rw [List.tail_cons,List.tail_drop] at this
  exact this
theorem C7.fin {s:Sto}{f:List Cnd}{lo hi:Int}{i k:Nat}(h:C7 s f lo hi i k) (hi2:(BG (Bt f) 0 s.idx.names).length≤i):(Bd s f lo hi).length≤k:=by
 unfold C7 at h
 rw [Aa hi2] at h
 have:=congrArg List.length h
 simp only [List.flatMap_nil,List.length_nil,List.length_drop] at this
 omega
theorem C7.no1 {s:Sto}{f:List Cnd}{lo hi:Int}{i k:Nat}{id:Int}(h:C7 s f lo hi i k) (hs:SD s) (hk:Ac s=true) (hd:(BG (Bt f) 0 s.idx.names).drop i=id::(BG (Bt f) 0 s.idx.names).drop (i+1)) (hl:((GR (HU s id) lo hi).length:Int)≠0) (hb:(k:Int)≥((Bd s f lo hi).length:Int)):False:=by
 have hm:id∈BG (Bt f) 0 s.idx.names:=List.mem_of_mem_drop (by rw [hd]; simp)
 have h2:=D7 hm
 obtain ⟨n,hn⟩:∃ n,s.idx.names[(id - 1).toNat]? = some n:=⟨_,AU AB⟩
 have h3:=(List.getElem?_eq_some_iff.1 (h.hit hs hk hd hl hn).1).1
 omega
theorem C7.no2 {s:Sto}{f:List Cnd}{lo hi:Int}{i k:Nat}{id:Int}(h:C7 s f lo hi i k) (hs:SD s) (hk:Ac s=true) (hd:(BG (Bt f) 0 s.idx.names).drop i=id::(BG (Bt f) 0 s.idx.names).drop (i+1)) (hl:((GR (HU s id) lo hi).length:Int)≠0){n:List Tag}(hn:s.idx.names[(id - 1).toNat]? = some n){b:Hit}(hb:(Bd s f lo hi)[k]? = some b)
 (hf:(b.name==GK n)=false∨(b.name != GK n)=true∨(b.rows==GR (HU s id) lo hi)=false):False:=by
 have h3:=(h.hit hs hk hd hl hn).1
 rw [hb] at h3
 simp only [Option.some.injEq] at h3
 subst h3
 rcases hf with hf | hf | hf <;> simp at hf
end Go.Proofs.YtggnnidleedpaaaGreat
namespace Go.Proofs.YtggnnidleedpaaaGreat
theorem QW {s:Sto}(h:SD s) (h1:(Bj s).2=true):(Bj s).1=Ci s∧Ac s=true∧s.mem≠[]∧s.parts.length< 6:=by
 cases hk:Ac s with
 | false=>rw [JB hk] at h1; cases h1
 | true =>
   by_cases hc:(s.mem.length:Int)=0∨(s.parts.length:Int)=6
   ·rw [Gu h hk hc] at h1; cases h1
   ·have h6:=Mf hk
    rw [IK h hk AB AB]
    refine ⟨?_,rfl,fun e=>?_,by omega⟩
    ·show (⟨(AZ s).idx,(AZ s).parts++[Ai s.mem],[]⟩:Sto)=Ci s
     rw [h.copy]
     rfl
    ·rw [e] at hc; simp at hc
theorem IS {s x:Sto}{f:List Cnd}(hi:x.idx=s.idx) (hk:Ac s=Ac x) (hr:Ac s=true→∀ id:Int,1≤id→id≤s.idx.names.length→rowsOf x id=rowsOf s id) (lo hi2:Int):Bd x f lo hi2=Bd s f lo hi2:=by
 unfold Bd
 rw [← hk]
 cases hs:Ac s&&DU f with
 | false=>rfl
 | true =>
   simp only [AW] at hs
   rw [if_pos rfl,if_pos rfl]
   unfold NZ
   rw [hi]
   have key:∀ (l:List Int),(∀ i∈l,1≤i∧i≤s.idx.names.length)→l.flatMap (Dk x lo hi2)=l.flatMap (Dk s lo hi2):=by
    intro l
    induction l with
    | nil=>intro _; rfl
    | cons i is ih =>
      intro h
      rw [List.flatMap_cons,List.flatMap_cons,ih (fun j hj=>h j (by simp [hj]))]
      have h1:=h i AD
      unfold Dk
      rw [hr hs.1 i h1.1 h1.2,hi]
   exact key _ (fun i hi=>D7 hi)
end Go.Proofs.YtggnnidleedpaaaGreat
namespace Go.Proofs.YtggnnidleedpaaaGreat
theorem Lx (a b:Prt){id:Int}(h1:1≤id) (h2:id≤6):partOf (BC a b) id=Bb (partOf a id) (partOf b id):=by
 unfold BC
 rw [NW _ h1,List.getD_eq_getElem?_getD]
 unfold BT
 rw [List.getElem?_map,List.getElem?_range AB]
 simp only [Option.map_some,Option.getD_some]
 rw [show (((id - 1).toNat:Nat):Int)+1=id by omega]
def CI (s:Sto) (k:Nat):Sto:=⟨s.idx,Fx s.parts k,s.mem⟩
theorem IT {s:Sto}{i:Int}(h:SD s) (h1:(BM s i).2=true):Ac s=true∧0≤i∧i+2≤s.parts.length∧(BM s i).1=CI s i.toNat:=by
 cases hk:Ac s with
 | false=>rw [JE hk] at h1; cases h1
 | true =>
   cases hr:inR i 0 ((s.parts.length:Int) - 2) with
   | false=>rw [Kv h hk hr] at h1; cases h1
   | true =>
     have h2:=By hr
     refine ⟨rfl,h2.1,by omega,?_⟩
     rw [F3 hk,h.copy]
     unfold BD
     rw [if_pos hr]
     rfl
theorem Eu {s:Sto}{k:Nat}(hk:k+2≤s.parts.length):∃ x y,s.parts[k]? = some x∧s.parts[k+1]? = some y∧(CI s k).parts=s.parts.take k++[BC x y]++s.parts.drop (k+2):=by
 refine ⟨_,_,AU AB,AU AB,?_⟩
 exact G7 (AU AB) (AU AB)
theorem EX {s:Sto}(h:StoK s){k:Nat}(hk:k+2≤s.parts.length){id:Int}(h1:1≤id) (h2:id≤6):(CI s k).parts.foldl (Bq id) []=s.parts.foldl (Bq id) []∧rowsOf (CI s k) id=rowsOf s id:=by
 obtain ⟨x,y,hx,hy,e⟩:=Eu hk
 have key:(CI s k).parts.foldl (Bq id) []=s.parts.foldl (Bq id) []:=by
  have hs:s.parts=s.parts.take k++[x,y]++s.parts.drop (k+2):=by
   have e1:=List.take_append_drop k s.parts
   rw [Be hx,Be hy] at e1
   rw [List.append_assoc]
   exact e1.symm
  rw [e]
  conv=>rhs; rw [hs]
  simp only [List.foldl_append,List.foldl_cons,List.foldl_nil]
  congr 1
  have px:=h.sd.part x (AV hx)
  have py:=h.sd.part y (AV hy)
  have ho:Blk ((s.parts.take k).foldl (Bq id) []):=Fi (fun p hp=>h.sd.part p (List.mem_of_mem_take hp)) Blk.nil
  unfold Bq
  rw [Lx x y h1 h2]
  exact (Me ho (px.of id) (py.of id)).symm
 refine ⟨key,?_⟩
 unfold rowsOf
 rw [key]
 rfl
theorem Oq {p:Prt}{n:Int}(h:Bk p n=true):∃ id:Int,1≤id∧id≤6∧id≤n∧0< (partOf p id).length:=by
 have hle:=IP h
 unfold Bk at h
 simp only [AW] at h
 obtain ⟨h1,h2⟩:=h
 unfold Au at h1
 simp only [AW,decide_eq_true_eq] at h1
 obtain ⟨h3,h4⟩:=h1
 unfold partOf
 cases hi:p.ids with
 | nil=>rw [hi] at h2; simp at h2
 | cons i is =>
   cases hb:p.blocks with
   | nil=>rw [hi,hb] at h3; simp at h3
   | cons b bs =>
     rw [hi,hb] at h4
     unfold Bo at h4
     simp only [AW,decide_eq_true_eq] at h4
     have h5:=By h4.1.1.1.1
     refine ⟨i,h5.1,h5.2,hle i (by rw [hi]; simp),?_⟩
     unfold Ba
     rw [if_pos AD]
     exact h4.1.1.2
theorem Nq {s:Sto}(h:SD s) (hk:Ac s=true){x y:Prt}(hx:x∈s.parts) (hy:y∈s.parts){id:Int}(h1:1≤id) (h2:id≤6):Blk (Bb (partOf x id) (partOf y id))∧(Bb (partOf x id) (partOf y id)).length≤24:=by
 have e:=Ku h hk hx hy
 unfold CB at e
 split at e
 ·rename_i hc
  obtain ⟨ox,oy,hm⟩:=hc
  unfold okM at hm
  rw [List.all_eq_true] at hm
  have:=hm (id - 1).toNat (by rw [List.mem_range]; omega)
  rw [show (((id - 1).toNat:Nat):Int)+1=id by omega] at this
  have e1:BF x id=partOf x id:=by unfold BF; rw [if_pos ox]
  have e2:BF y id=partOf y id:=by unfold BF; rw [if_pos oy]
  rw [e1,e2] at this
  refine ⟨(JW (Fj ox id)).merge (JW (Fj oy id)),?_⟩
  unfold CC at this
  split at this
  ·rename_i hc; have:=hc.2.2; omega
  ·cases this
 ·exact absurd (congrArg Prod.snd e) AD
theorem Fk {s:Sto}(h:SD s) (hk:Ac s=true){k:Nat}(hl:k+2≤s.parts.length):Ac (CI s k)=true:=by
 have hK:=StoK.of h hk
 obtain ⟨x,y,hx,hy,e⟩:=Eu hl
 have mx:=AV hx
 have my:=AV hy
 have hn:=h.nm.len
 have hk2:=hk
 unfold Ac at hk2 ⊢
 simp only [AW,decide_eq_true_eq,List.all_eq_true,List.mem_range,Ei] at hk2 ⊢
 obtain ⟨⟨⟨⟨a1,a2⟩,a3⟩,a4⟩,a5⟩:=hk2
 refine ⟨⟨⟨⟨?_,a2⟩,fun p hp=>?_⟩,a4⟩,fun i hi=>?_⟩
 ·rw [e]
  simp only [List.length_append,List.length_take,List.length_drop,List.length_cons,List.length_nil]
  omega
 ·rw [e] at hp
  simp only [List.mem_append,List.mem_cons,List.not_mem_nil,or_false] at hp
  rcases hp with (hp | rfl) | hp
  ·exact a3 p (List.mem_of_mem_take hp)
  ·show Bk (Dx (BT x y 6)) s.idx.names.length=true
   have hblk:∀ (i:Nat) b,(BT x y 6)[i]? = some b→i< 6∧b=Bb (partOf x ((i:Int)+1)) (partOf y ((i:Int)+1)):=fun i b hb=>by
    unfold BT at hb
    rw [List.getElem?_map] at hb
    by_cases hi:i< 6
    ·rw [List.getElem?_range hi] at hb
     simp only [Option.map_some,Option.some.injEq] at hb
     exact ⟨hi,hb.symm⟩
    ·rw [List.getElem?_eq_none (by simp; omega)] at hb
     cases hb
   refine NY (fun b hb=>?_) (by rw [Dr]; omega) ?_ (fun i b hb hp=>?_)
   ·obtain ⟨i,hi⟩:=List.mem_iff_getElem?.1 hb
    obtain ⟨h6,rfl⟩:=hblk i b hi
    exact Nq h hk mx my AB AB
   ·obtain ⟨id,g1,g2,_,g4⟩:=Oq (a3 x mx)
    refine ⟨Bb (partOf x id) (partOf y id),?_,?_⟩
    ·unfold BT
     refine List.mem_map.2 ⟨(id - 1).toNat,by simp; omega,?_⟩
     rw [show (((id - 1).toNat:Nat):Int)+1=id by omega]
    ·have bx:=(h.part x mx).of id
     have by':=(h.part y my).of id
     have:=Md bx (bx.merge by') (fun t ht=>by
      rw [Ch t _ bx by']
      cases look t (partOf y id) with
      | none=>exact ht
      | some q=>rfl)
     omega
   ·obtain ⟨h6,rfl⟩:=hblk i b hb
    by_cases hin:i< s.idx.names.length
    ·exact hin
    ·rw [JF (p:=x) (fun j hj=>by have:=IP (a3 x mx) j hj; omega),JF (p:=y) (fun j hj=>by have:=IP (a3 y my) j hj; omega)] at hp
     exact absurd hp AE
  ·exact a3 p (List.mem_of_mem_drop hp)
 ·rw [(EX hK hl AB (by have:i< s.idx.names.length:=hi; omega)).2]
  exact a5 i hi
theorem QX {s:Sto}(h:SD s){k:Nat}(hl:k+2≤s.parts.length):SD (CI s k):=by
 obtain ⟨x,y,hx,hy,e⟩:=Eu hl
 refine ⟨h.idx,h.nm,h.nd,?_,fun p hp=>?_,h.nm2,h.mem⟩
 ·have:=h.np
  rw [e]
  simp only [List.length_append,List.length_take,List.length_drop,List.length_cons,List.length_nil]
  omega
 ·rw [e] at hp
  simp only [List.mem_append,List.mem_cons,List.not_mem_nil,or_false] at hp
  rcases hp with (hp | rfl) | hp
  ·exact h.part p (List.mem_of_mem_take hp)
  ·exact (h.part x (AV hx)).merge (h.part y (AV hy))
  ·exact h.part p (List.mem_of_mem_drop hp)
section
variable {s:Sto} {i:Int}
theorem SA (h:SD s) (h1:(BM s i).2=true):SD (BM s i).1:=by
 obtain ⟨_,h2,h3,e⟩:=IT h h1
 rw [e]
 exact QX h AB
theorem Ot (h:SD s) (h1:(BM s i).2=true):Bd (BM s i).1 [] 0 99=Bd s [] 0 99∧Ac (BM s i).1=true:=by
 obtain ⟨hk,h2,h3,e⟩:=IT h h1
 have h5:=Fk h hk (k:=i.toNat) AB
 rw [e]
 exact ⟨IS (x:=CI s i.toNat) (s:=s) rfl (hk.trans h5.symm) (fun _ id a b=>(EX (StoK.of h hk) AB a (by have:=h.nm.len; omega)).2) _ _,h5⟩
theorem QY (h:SD s) (h1:(BM s i).2=true):(BM s i).1.parts.length+1=s.parts.length∧0≤i∧i+2≤s.parts.length∧i+1≤(BM s i).1.parts.length:=by
 obtain ⟨hk,h2,h3,e⟩:=IT h h1
 obtain ⟨x,y,hx,hy,e2⟩:=Eu (s:=s) (k:=i.toNat) AB
 rw [e,e2]
 simp only [List.length_append,List.length_take,List.length_drop,List.length_cons,List.length_nil]
 omega
end
end Go.Proofs.YtggnnidleedpaaaGreat
namespace Go.Proofs.YtggnnidleedpaaaGreat
theorem SB (v:Int):∀ (l:List Int) (i:Nat),l.contains v=decide (EJ v i l≥0):=by
 intro l
 induction l with
 | nil=>intro i; simp [EJ]
 | cons x xs ih =>
   intro i
   have:=ih (i+1)
   have e:EJ v i (x::xs)=if x==v then (i:Int) else EJ v (i+1) xs:=rfl
   rw [e,List.contains_cons,this]
   by_cases h:x=v
   ·subst h; simp
   ·have h1:(x==v)=false:=beq_eq_false_iff_ne.2 h
    have h2:(v==x)=false:=beq_eq_false_iff_ne.2 (fun e=>h e.symm)
    rw [h1,h2]
    simp
def Db (nx:Int):Option Int→List Fil→Bool
 | _,[]=>true
 | o,f::fs=>inR f.num 1 (nx - 1)&&(match o with | some q=>decide (q< f.num) | none=>true)&&Au f.part&&Db nx (some f.num) fs
def Du (d:Dsk):Bool:=d.list.all (fun n=>decide (0≤At d n))&&decide d.list.Nodup
def Ax (d:Dsk):Bool:=inR d.next 1 999&&decide (d.files.length≤20)&&decide (d.list.length≤6)&&Db d.next none d.files&&Du d&&(nmB d.names&&Ac (Al d))
structure DD (d:Dsk):Prop where
 g:NmG d.names
 nl:d.list.length≤7
 nf:d.files.length≤20
 file:∀ f∈d.files,PrtI f.part
 next:0≤d.next∧d.next≤999
theorem DD.part {d:Dsk}(h:DD d) (n:Int):PrtI (Av d n):=by
 unfold Av
 rw [List.getD_eq_getElem?_getD]
 cases hx:d.files[(At d n).toNat]? with
 | none=>exact PrtI.nil
 | some f=>exact h.file f (AV hx)
theorem DD.sg {d:Dsk}(h:DD d):SG (Al d):=by
 refine ⟨⟨h.g,fun _=>rfl⟩,by simp [Al]; exact h.nl,fun p hp=>?_,by simp [Al],by simp [Al]⟩
 simp only [Al,List.mem_map] at hp
 obtain ⟨n,_,rfl⟩:=hp
 exact h.part n
def Jv (fs:List Fil) (k:Nat):Option Int:=prev (fs.map Fil.num) k
theorem Nr {nx:Int}{fs:List Fil}{k:Nat}{f:Fil}{b:Bool}(h:Db nx (Jv fs k) (fs.drop k)=b) (hd:fs.drop k=f::fs.drop (k+1)) (hf:fs[k]? = some f) (h1:inR f.num 1 (nx - 1)=true) (h2:k=0∨∃ q,fs[k - 1]? = some q∧¬ q.num≥f.num) (h3:Au f.part=true):Db nx (Jv fs (k+1)) (fs.drop (k+1))=b:=by
 rw [hd] at h
 unfold Db at h
 have e:Jv fs (k+1)=some f.num:=by unfold Jv; rw [Py,List.getElem?_map,hf]; rfl
 have e2:(match Jv fs k with | some q=>decide (q< f.num) | none=>true)=true:=by
  rcases h2 with rfl | ⟨q,hq,hlt⟩
  ·rfl
  ·by_cases hk:k=0
   ·subst hk; rfl
   ·have:Jv fs k=some q.num:=by unfold Jv; rw [M9 _ _ AB,List.getElem?_map,hq]; rfl
    rw [this]
    simp
    omega
 rw [h1,h3,e2] at h
 rw [e]
 simpa using h
theorem Mi {nx:Int}{fs:List Fil}{k:Nat}{f:Fil}{b:Bool}(h:Db nx (Jv fs k) (fs.drop k)=b) (hd:fs.drop k=f::fs.drop (k+1)) (h1:inR f.num 1 (nx - 1)=false∨(0< k∧∃ q,fs[k - 1]? = some q∧q.num≥f.num)∨Au f.part=false):b=false:=by
 rw [hd] at h
 unfold Db at h
 rw [← h]
 rcases h1 with h1 | ⟨hk,q,hq,hge⟩ | h1
 ·rw [h1]; simp
 ·have:Jv fs k=some q.num:=by unfold Jv; rw [M9 _ _ AB,List.getElem?_map,hq]; rfl
  have e2:decide (q.num< f.num)=false:=decide_eq_false AB
  rw [this]
  simp only [e2]
  simp
 ·rw [h1]; simp
theorem Ty {nx:Int}{fs:List Fil}{k:Nat}{b:Bool}(h:Db nx (Jv fs k) (fs.drop k)=b) (hk:fs.length≤k):b=true:=by
 rw [Aa hk] at h
 exact h.symm
def SC (d:Dsk) (k:Nat):Prop:=∀ j n,j< k→d.list[j]? = some n→0≤At d n∧n∉d.list.take j
theorem VH (d:Dsk):SC d 0:=fun j _ h=>absurd h AB
def fresh (d:Dsk) (n:Int) (k:Nat):Prop:=n∉d.list.take k
theorem SE {d:Dsk}{n:Int}{k:Nat}(h:((d.list.take k).drop 0).contains n=false):fresh d n k:=by
 unfold fresh
 rw [List.drop_zero] at h
 intro hm
 rw [List.contains_iff_mem.2 hm] at h
 cases h
theorem QZ {d:Dsk}{k j:Nat}{n:Int}(h:SC d k) (hn:d.list[k]? = some n) (h1:¬ At d n< 0) (h2:fresh d n j) (hj:k≤j):SC d (k+1):=fun i m hi hm=>by
 by_cases e:i=k
 ·subst e
  rw [hn] at hm
  cases hm
  refine ⟨by omega,fun hmem=>h2 ?_⟩
  obtain ⟨a,ha⟩:=List.mem_iff_getElem?.1 hmem
  rw [List.getElem?_take] at ha
  split at ha
  ·exact List.mem_iff_getElem?.2 ⟨a,by rw [List.getElem?_take,if_pos AB]; exact ha⟩
  ·cases ha
 ·exact h i m AB hm
theorem Ns {d:Dsk}{k:Nat}(h:SC d k) (hk:d.list.length≤k):Du d=true:=by
 unfold Du
 rw [AW,List.all_eq_true,decide_eq_true_eq]
 refine ⟨fun n hn=>?_,?_⟩
 ·obtain ⟨j,hj⟩:=List.mem_iff_getElem?.1 hn
  have:=(h j n (by have:=(List.getElem?_eq_some_iff.1 hj).1; omega) hj).1
  simpa using this
 ·unfold List.Nodup
  rw [List.pairwise_iff_getElem]
  intro i j hi hj hij e
  refine (h j d.list[j] AB (AU hj)).2 ?_
  rw [← e]
  exact List.mem_iff_getElem?.2 ⟨i,by rw [List.getElem?_take,if_pos hij]; exact AU hi⟩
theorem VI {d:Dsk}{k:Nat}{n:Int}(hn:d.list[k]? = some n) (h:At d n< 0):Du d=false:=by
 cases hb:Du d with
 | false=>rfl
 | true =>
   unfold Du at hb
   rw [AW,List.all_eq_true] at hb
   have:=hb.1 n (AV hn)
   simp at this
   omega
theorem VJ {d:Dsk}{k:Nat}{n:Int}(hn:d.list[k]? = some n) (h:n∈d.list.take k):Du d=false:=by
 cases hb:Du d with
 | false=>rfl
 | true =>
   unfold Du at hb
   rw [AW,decide_eq_true_eq] at hb
   obtain ⟨i,hi⟩:=List.mem_iff_getElem?.1 h
   rw [List.getElem?_take] at hi
   split at hi
   ·rename_i hik
    have hd:=hb.2
    unfold List.Nodup at hd
    rw [List.pairwise_iff_getElem] at hd
    obtain ⟨a1,a2⟩:=List.getElem?_eq_some_iff.1 hi
    obtain ⟨b1,b2⟩:=List.getElem?_eq_some_iff.1 hn
    exact absurd (a2.trans b2.symm) (hd i k a1 b1 hik)
   ·cases hi
theorem EY {d:Dsk}(h:Du d=true):∀ n∈d.list,0≤At d n:=fun n hn=>by
 unfold Du at h
 rw [AW,List.all_eq_true] at h
 have:=h.1 n hn
 simpa using this
theorem VK {d:Dsk}{k:Nat}{n:Int}(hn:d.list[k]? = some n) (h:((d.list.take k).drop 0).contains n=true):Du d=false:=by
 rw [List.drop_zero] at h
 exact VJ hn (List.contains_iff_mem.1 h)
section
variable {d:Dsk}
theorem VM (h:inR d.next 1 999=false∨(d.files.length:Int) > 20∨(d.list.length:Int) > 6∨(d.names.length:Int) > 6):Ax d=false:=by
 unfold Ax
 rcases h with h | h | h | h
 ·rw [h]; simp
 ·rw [decide_eq_false (p:=d.files.length≤20) AB]; simp
 ·rw [decide_eq_false (p:=d.list.length≤6) AB]; simp
 ·rw [← Tf h]; simp
theorem Tz (h:Db d.next none d.files=false):Ax d=false:=by unfold Ax; rw [h]; simp
theorem WH (h:Du d=false):Ax d=false:=by unfold Ax; rw [h]; simp
theorem Wm (h1:inR d.next 1 999=true) (h2:¬ (d.files.length:Int) > 20) (h3:¬ (d.list.length:Int) > 6) (h5:Db d.next none d.files=true) (h6:Du d=true):Ax d=(nmB d.names&&Ac (Al d)):=by
 unfold Ax
 rw [h1,h5,h6,decide_eq_true AB,decide_eq_true AB]
 simp
theorem Wn {y:Sto}(h1:inR d.next 1 999=true) (h2:¬ (d.files.length:Int) > 20) (h3:¬ (d.list.length:Int) > 6) (h5:Db d.next none d.files=true) (h6:Du d=true) (hd:NsD d.names) (hy:y.idx.names=d.names∧(NmI d.names→NsD d.names→y=Al d)):(nmB y.idx.names&&Ac y)=Ax d:=by
 rw [Wm h1 h2 h3 h5 h6,hy.1]
 cases hb:nmB d.names with
 | false=>rfl
 | true=>rw [hy.2 (D4.1 hb) hd]
theorem Fl (h:Ax d=true):NmI d.names∧Ac (Al d)=true∧Du d=true:=by
 unfold Ax at h
 simp only [AW] at h
 exact ⟨D4.1 h.2.1,h.2.2,h.1.2⟩
theorem DD.sd (h:DD d) (hk:Ax d=true):SD (Al d):=by
 obtain ⟨h1,h2,_⟩:=Fl hk
 have h3:=Mf h2
 exact h.sg.sd (D4.2 h1) h3
def Bg (d:Dsk):Sto:=if Ax d then Al d else ⟨⟨[],[]⟩,[],[]⟩
theorem T0 (h:Ax d=false):Bg d=⟨⟨[],[]⟩,[],[]⟩:=by unfold Bg; rw [if_neg (by simp [h])]
theorem F4 (h:Ax d=true):Bg d=Al d:=by unfold Bg; rw [if_pos h]
end
theorem Qa {d:Dsk}{l:List Int}{i:Nat}{n:Int}{k Y:List Prt}{f:Fil}(h:k++(l.drop i).map (Av d)=Y) (hd:l.drop i=n::l.drop (i+1)) (hf:d.files[(At d n).toNat]? = some f):(k++[f.part])++(l.drop (i+1)).map (Av d)=Y:=by
 rw [hd,List.map_cons] at h
 rw [← h]
 have:Av d n=f.part:=by unfold Av; rw [List.getD_eq_getElem?_getD,hf]; rfl
 rw [this]
 simp
theorem SF {d:Dsk}{l:List Int}{i:Nat}{k Y:List Prt}(h:k++(l.drop i).map (Av d)=Y) (hi:l.length≤i):k=Y:=by
 rw [Aa hi] at h
 simpa using h
theorem HB {d:Dsk}{n:Int}(h:0≤At d n):(At d n).toNat< d.files.length∧At d n=((At d n).toNat:Int):=by
 have:=(J7 n d.files 0).1
 unfold At at h ⊢
 omega
def D9 (d:Dsk) (y:Sto):Prop:=y.idx.names=d.names∧y.parts=(Al d).parts∧y.mem=[]∧(NmI d.names→NsD d.names→y=Al d)
theorem D9.mk {d:Dsk}{a:List (List Tag)}{b:List Pst}{c:List Prt}{e:List Smp}(h1:a=d.names) (h2:c=d.list.map (Av d)) (h3:e=[]) (h4:NmI d.names→NsD d.names→(⟨a,b⟩:Idx)=idxOf d.names):D9 d ⟨⟨a,b⟩,c,e⟩:=by
 subst h2 h3
 refine ⟨h1,rfl,rfl,fun x y=>?_⟩
 unfold Al
 rw [h4 x y]
theorem D9.sg {d:Dsk}{y:Sto}(q:D9 d y) (h:DD d):SG y:=by
 obtain ⟨q1,q2,q3,q4⟩:=q
 refine ⟨⟨by rw [q1]; exact h.g,fun hn=>?_⟩,by rw [q2]; exact h.sg.np,fun p hp=>h.sg.part p (by rw [← q2]; exact hp),by rw [q3]; simp,by rw [q3]; simp⟩
 rw [q1] at hn ⊢
 have:=q4 hn h.g.nd
 rw [this]
 rfl
theorem D9.eq {d:Dsk}{y:Sto}(q:D9 d y) (h:DD d) (hk:Ax d=true):y=Bg d:=by rw [F4 hk]; exact q.2.2.2 (Fl hk).1 h.g.nd
theorem D9.dk {d:Dsk}{y:Sto}(hy:D9 d y) (h:DD d) (h1:inR d.next 1 999=true) (h2:¬ (d.files.length:Int) > 20) (h3:¬ (d.list.length:Int) > 6) (h5:Db d.next none d.files=true) (h6:Du d=true):(nmB y.idx.names&&Ac y)=Ax d:=Wn h1 h2 h3 h5 h6 h.g.nd ⟨hy.1,hy.2.2.2⟩
end Go.Proofs.YtggnnidleedpaaaGreat
namespace Go.Proofs.YtggnnidleedpaaaGreat
set_option maxRecDepth 100000
set_option maxHeartbeats 4000000
variable {w:World} {F:Nat→Prop} {a1 a2 a3:Option Addr} {n1 c1 n2 c2 n3 c3:Nat}
theorem Hl (f:Fil) (num:Int) (h1:RepS w F a1 n1 c1 f.part.ids) (h2:RepS w F a2 n2 c2 f.part.blocks){bq_num:Nat}(hb_num:Box w bq_num 3 [.int .i64 num])  : Calls Tryz.prog 127 [.agg #[.int .i64 f.num,.slice a1 n1 c1,.slice a2 n2 c2],.pointer (some ⟨bq_num,0,none⟩)].toArray w (Am fun rv w'=>rv=.bool ((f.num==num))∧Ext w w'):=by
 cases h1.len
 cases h2.len
 refine goT func127 ?_
 have Z:=(((St.i0 F w).p h1).p h2).pb' hb_num
 exact .s<|.g<|RG.Np Z fun ab w Z=>.r 1<|.d<|.s<|.g<|.r 1<|RG.Lb 0 Z<|RG.Lh 0 0 Z<|.r 2<|.d<|T.rt func127 results127 (.bool (f.num==num)) ⟨(AG AF),Z.xt⟩
theorem IU (s:List Fil) (num:Int) (h1:RepS w F a1 n1 c1 s){bq_num:Nat}(hb_num:Box w bq_num 3 [.int .i64 num])  : Calls Tryz.prog 126 [.slice a1 n1 c1,.func (.func 127) #[] #[.pointer (some ⟨bq_num,0,none⟩)]].toArray w (Am fun rv w'=>rv=.int .i64 (DB num 0 s)∧Ext w w'):=by
 refine goT func126 ?_
 obtain ⟨rfl,au,h1⟩:=h1.tp
 refine .s<|.g<|.r 1<|.d<|.s<|.s<|.g<|.r 3<|.d<|.b 0<|T.loop (X:=Nat) 0 (fun k=>[(0,.slice a1 s.length c1),(1,.func (.func 127) #[] #[.pointer (some ⟨bq_num,0,none⟩)]),(7,vI (s.length:Int)),(8,vI (k:Int))]) (fun k ab=>Chg (ins []) w ab∧(k≤s.length)∧(DB num k (s.drop k)=DB num 0 s)) (fun k=>s.length - k) AA ⟨AA,AA,AA,AA,trivial⟩ ⟨Chg.refl _ _,AD,AD⟩ ?_
 rintro k aD ab ⟨E,ax,ay⟩ ac
 have af:Mv [] [] w ab:=Mv.inl E all_nil all_nil
 replace ⟨h1,hb_num⟩:=(sp af E).g2 h1 hb_num
 have aa:Chg nil w ab:=Chg.LQ (Chg.refl nil w) E all_nil
 refine .s<|.g<|.bp ((k:Int)< (s.length:Int)) (fun ak=>?_) (fun ak=>.d<|.s<|.cf<|.x 0 rfl<|.s<|.g<|.r 1<|.d<|.rt func126 results126 (vI (-1)) ⟨(congrArg (Value.int .i64) (by grind [DB,Aa])),aa⟩)
 refine .d<|.s<|.ct<|.sk<|.s<|.b 1<|.s<|.g<|.r 2<|.d<|.s<|.g<|.r 3 ?_
 have al:k< s.length:=AB
 refine .ix k 3 h1 al ?_
 obtain ⟨ah,ae⟩:∃ y,s[k]? = some y:=⟨_,AU AB⟩
 have az:=Be ae
 obtain ⟨_,⟨aE,aF,aG,aH,aI,aJ,rfl,ai,aj⟩,am⟩:=h1.elem k ah ae
 have ao:=ai.len
 subst ao
 have aq:=aj.len
 subst aq
 refine .lg 0 am<|.cl (Hl ah num ai.ta aj.ta hb_num (w:=ab) (F:=all)) ?_
 rintro aK aL ⟨rfl,ag⟩
 replace ⟨hb_num,aa,E⟩:=(se [] ag).g3 hb_num aa E
 cases aC:(ah.num==num)
 ·exact .d<|.cf<|.sk<|.ib 1<|.g<|.it ((k:Int)+1)<|.r 1<|.d<|ac (k+1) _ _ ⟨AA,AA,AA,AA,trivial⟩ ⟨E,AB,(by grind [DB])⟩ AB
 exact .d<|.ct<|.s<|.g<|.r 2<|.d<|.rt func126 results126 (vI (k:Int)) ⟨(congrArg (Value.int .i64) (by grind [DB,Aa])),aa⟩
theorem Cq (d:Dsk) (num:Int) (h1:RepS w F a1 n1 c1 d.files) (h2:RepS w F a2 n2 c2 d.list) (h3:RepS w F a3 n3 c3 d.names)  : Calls Tryz.prog 83 [.agg #[.slice a1 n1 c1,.slice a2 n2 c2,.slice a3 n3 c3,.int .i64 d.next],.int .i64 num].toArray w (Am fun rv w'=>rv=.int .i64 (At d num)∧Ext w w'):=by
 cases h1.len
 cases h2.len
 cases h3.len
 refine goT func83 ?_
 have Z:=(((St.i0 F w).p h1).p h2).p h3
 exact .s<|.g<|RG.Np Z fun ac w Z=>RG.Np Z fun ae w Z=>.r 1<|.d<|.s<|.g<|.r 1<|RG.Lb 1 Z<|.r 1<|RG.C0 (IU d.files num (Z.a 2) (Z.bc 0)) Z fun w Z=>.r 1<|.d<|T.rt func83 results83 (vI (DB num 0 d.files)) ⟨(congrArg (Value.int .i64) AF),Z.xt⟩
theorem Cb (s:List Int) (v:Int) (h1:RepS w F a1 n1 c1 s)  : Calls Tryz.prog 84 [.slice a1 n1 c1,.int .i64 v].toArray w (Am fun rv w'=>rv=.bool (s.contains v)∧Ext w w'):=by
 cases h1.len
 refine goT func84 ?_
 have Z:=(St.i0 F w).p h1
 exact .s<|.g<|.r 1<|.d<|.s<|.g<|.r 2<|RG.C0 (Dz s v (Z.a 0)) Z fun w Z=>.r 2<|.d<|T.rt func84 results84 (.bool (decide (EJ v 0 s≥0))) ⟨(AG (by exact (SB v s 0).symm)),Z.xt⟩
theorem EN (d:Dsk) (h1:RepS w F a1 n1 c1 d.files) (h2:RepS w F a2 n2 c2 d.list) (h3:RepS w F a3 n3 c3 d.names) (p0:DD d) (p1:∀ n∈d.list,0≤At d n):Calls Tryz.prog 46 [.agg #[.slice a1 n1 c1,.slice a2 n2 c2,.slice a3 n3 c3,.int .i64 d.next]].toArray w (Am fun rv w'=>(∃ (y:Sto),VS (ge w.heap.size) w' (y:Sto) rv∧(D9 d y))∧Ext w w'):=by
 cases h1.len
 cases h2.len
 cases h3.len
 refine goT func46 ?_
 have Z:=(((St.i0 F w).p h1).p h2).p h3
 have aI:=h2.max
 refine .s<|.g<|RG.Np Z fun al w Z=>RG.Np Z fun am w Z=>.d<|.s<|.g<|.r 1<|RG.Lb 1 Z<|RG.cl (GH d.names (Z.a 0) p0.g.len p0.g.l5 p0.g.bl) ?_
 rintro aT w ⟨⟨ag,ax,aK⟩,ao⟩
 refine RG.vS Z ax ao ?_
 intro ay az aA aB Z
 refine RG.N0 Prt 0 Z fun aC w Z=>RG.N0 Smp 0 Z fun aD w Z=>.r 1<|RG.Np Z fun ai w Z=>RG.Ss 0 Z fun w Z=>.d<|.s<|.s<|.g<|.r 1<|RG.Lb 4 Z<|.r 2<|.d<|.b 0<|T.Lp ((0:Nat),(ag.names:List (List Tag)),ay,az,(ag.AY:List Pst),aA,aB,([]:List Prt),aC,(0:Nat),([]:List Smp),aD,(0:Nat)) (fun (k,aa,a_s_0,c_s_0,ab,a_s_1,c_s_1,E,r_s_2,c_s_2,ac,r_s_3,c_s_3)=>([(1,vP al),(2,vP am),(3,vP ai),(13,.slice a2 d.list.length c2),(14,vI (d.list.length:Int)),(15,vI (k:Int))],[(0,.box ai 32 [.slice a_s_0 aa.length c_s_0,.slice a_s_1 ab.length c_s_1,vS r_s_2 E.length c_s_2,vS r_s_3 ac.length c_s_3]),(1,.own 0 r_s_3 85 c_s_3 ac),(2,.own 0 r_s_2 48 c_s_2 E)],[⟨0,none,.rep a_s_0 c_s_0 aa⟩,⟨0,none,.rep a_s_1 c_s_1 ab⟩],d.list.length - k,(k≤d.list.length)∧(E.length≤k)∧(E++(d.list.drop k).map (Av d)=d.list.map (Av d))∧(ac=[])∧(aa=d.names)∧((NmI d.names→NsD d.names→(⟨aa,ab⟩:Idx)=idxOf d.names)))) [0,1] Z ⟨AD,AD,AF,AF,(by have q1:ag.names=d.names∧(NmI d.names→NsD d.names→ag=idxOf d.names):=‹_›; exact q1.1),(by have q1:ag.names=d.names∧(NmI d.names→NsD d.names→ag=idxOf d.names):=‹_›; exact q1.2)⟩ ?_
 rintro ⟨k,aa,a_s_0,c_s_0,ab,a_s_1,c_s_1,E,r_s_2,c_s_2,ac,r_s_3,c_s_3⟩ aU w Z ⟨aL,aM,aN,aO,aP,aQ⟩ ah
 refine .s<|.g<|.bp ((k:Int)< (d.list.length:Int)) (fun aq=>?_) (fun aq=>?_)
 ·exact .d<|.s<|.ct<|.sk<|.s<|.b 1<|.s<|.g<|gxb (h:=AB) d.list k fun aj ae aR ar=>RG.Ix 5 ae Z<|Z.el 5 ae fun Z=>RG.Lh 0 0 Z<|.r 1<|.d<|T.GS 12 [ai,am,al] Z fun _ w Z=>.r [0]<|GA.Lb 1 0 Z<|.r [2]<|GA.Lb (q:=2) 3 4 Z<|GA.Ln (q:=2) 4 4 Z<|.r [5]<|GA.D0 6 Z (fun w Y=>Cq d aj (Y.a 7) (Y.a 6) (Y.a 5))<|gxm (h:=(by exact (HB (p1 _ ‹_›)).1)) d.files ((At d aj).toNat) fun ak af au=>GA.Jx (hz:=(by exact (HB (p1 _ ‹_›)).2)) 7 7 (At d aj) af Z<|.r [8]<|Z.el 7 af fun aV aW aX aY Z=>GA.Lg 9 0 1 Z<|.go 10<|GE.CS (fun w Z=>Ar ak.part (Z.a 1) (Z.a 2) (p0.file _ ‹_›).sz) Z fun aZ ba bd bg w Z=>.go 11<|GE.Nb 1 Z fun bh w Z=>GA.Do Z fun w Z=>RG.Ap (hs:=by exact (by have:=p0.nl; omega)) 2 0 E ak.part [0,1] Z fun aF aG w Z=>.r 1<|RG.Ss 0 Z fun w Z=>.d<|.ib 1<|.g<|RG.int ((k:Int)+1) AA AB<|.r 1<|.d<|ah (k+1,aa,a_s_0,c_s_0,ab,a_s_1,c_s_1,(E++[ak.part]),aF,aG,ac,r_s_3,c_s_3) _ _ AA (Z.to 0 [6,7] 8) ⟨AB,(by simp; omega),(by exact Qa ‹_› ‹_› ‹_›),‹_›,‹_›,‹_›⟩ (by (simp only []; omega))
 refine .d<|.s<|.cf<|.x 0 rfl<|.s<|.g<|RG.Ln 0 Z<|RG.Ss 3 Z fun w Z=>.d ?_
 have Z:=(Z.sl 2).sl 1
 exact T.Rb 1 func46 results46 Z ⟨⟨((⟨(⟨aa,ab⟩:Idx),E,ac⟩:Sto):Sto),Z.rS (⟨(⟨aa,ab⟩:Idx),E,ac⟩:Sto) [2,3,1,0] rfl,(by exact D9.mk ‹_› (SF ‹_› AB) ‹_› ‹_›)⟩,Z.xt⟩
theorem C5 (d:Dsk) (h1:RepS w F a1 n1 c1 d.files) (h2:RepS w F a2 n2 c2 d.list) (h3:RepS w F a3 n3 c3 d.names) (p0:DD d):Calls Tryz.prog 45 [.agg #[.slice a1 n1 c1,.slice a2 n2 c2,.slice a3 n3 c3,.int .i64 d.next]].toArray w (Am fun rv w'=>rv=.bool (Ax d)∧Ext w w'):=by
 cases h1.len
 cases h2.len
 cases h3.len
 refine goT func45 ?_
 have Z:=(((St.i0 F w).p h1).p h2).p h3
 have aF:=h1.max
 have aG:=h2.max
 refine .s<|.g<|RG.Np Z fun ak w Z=>.r 1<|.d<|.s<|.s<|.g<|.r 1<|RG.Lb 0 Z<|RG.C0 (Bv d.next 1 999 (F:=all)) Z fun w Z=>?_
 cases ah:(inR d.next 1 999)
 ·exact .r 13<|.d<|.ct<|.s<|.g<|.r 1<|.d<|T.rt func45 results45 (.bool false) ⟨(AG (by symm; exact VM (.inl ‹_›))),Z.xt⟩
 have aJ:=By ah
 refine .r 3<|RG.Lb 0 Z<|.r 1<|.bp ((d.files.length:Int) > 20) (fun al=>.r 7<|.d<|.ct<|.s<|.g<|.r 1<|.d<|T.rt func45 results45 (.bool false) ⟨(AG (by symm; exact VM (.inr (.inl ‹_›)))),Z.xt⟩) fun al=>.r 3<|RG.Lb 0 Z<|.r 1<|.bp ((d.list.length:Int) > 6) (fun am=>.r 1<|.d<|.ct<|.s<|.g<|.r 1<|.d<|T.rt func45 results45 (.bool false) ⟨(AG (by symm; exact VM (.inr (.inr (.inl ‹_›))))),Z.xt⟩) fun am=>.r 1<|.d<|.cf<|.sk<|.s<|.s<|.g<|.r 1<|RG.Lb 0 Z<|.r 2<|.d<|.b 0<|T.Lp (0:Nat) (fun k=>([(1,vP ak),(24,.slice a1 d.files.length c1),(25,vI (d.files.length:Int)),(26,vI (k:Int))],[],[],d.files.length - k,(k≤d.files.length)∧(Db d.next (Jv d.files k) (d.files.drop k)=Db d.next none d.files))) [] Z ⟨AD,AF⟩ ?_
 rintro k aY w Z ⟨aK,aL⟩ E
 refine .s<|.g<|.bp ((k:Int)< (d.files.length:Int)) (fun ao=>?_) (fun ao=>?_)
 ·refine .d<|.s<|.ct<|.sk<|.s<|.b 1<|.s<|.g<|.r 1<|gxd d.files k fun aa ab aM=>RG.Ix 2 ab Z<|Z.el 2 ab fun aZ ba bd bg Z=>RG.Lg 0 0 Z<|RG.Np Z fun bh w Z=>.r 1<|RG.Ss 0 Z fun w Z=>.d<|.s<|T.Gd 20 Z fun w Z=>.r [0]<|GA.Lb 1 0 Z<|.r [2]<|GA.Lb 3 1 Z<|GA.int (i:=4) (d.next - 1) AA (by have q1:=p0.next; omega)<|GA.C0 5 Z (fun w Z=>Bv aa.num 1 (d.next - 1) (F:=all)) ?_
  cases ai:(inR aa.num 1 (d.next - 1))
  ·exact .r [6,7]<|GA.Sk Z fun w Z=>.r 9<|.d<|.ct<|.s<|.g<|.r 1<|.d<|T.rt func45 results45 (.bool false) ⟨(AG (by symm; exact Tz (Mi ‹_› ‹_› (.inl ‹_›)))),Z.xt⟩
  refine .r [6,7,8]<|GA.F6 (i:=9) ((k:Int) > 0) AA (fun aq=>?_) (fun aq=>?_)
  ·refine .r [10,11]<|GA.Lb 12 1 Z<|.r [13]<|GA.int (i:=14) ((k:Int) - 1) AA (by have q1:=p0.next; omega)<|gx d.files (k - 1) fun aD ac=>GA.Jx 15 5 ((k:Int) - 1) ac Z<|.r [16]<|Z.el 5 ac fun bi bj bk bm Z=>GA.Lh 17 0 0 Z<|.r [18]<|GA.Lb 19 0 Z<|GA.Dn Z fun w Z=>.bp (aD.num≥aa.num) (fun ar=>.r 8<|.d<|.ct<|.s<|.g<|.r 1<|.d<|T.rt func45 results45 (.bool false) ⟨(AG (by symm; exact Tz (Mi ‹_› ‹_› (.inr (.inl ⟨by omega,_,by assumption,by assumption⟩))))),Z.xt⟩) fun ar=>.r 4<|RG.Ln 0 Z<|RG.C0 (C4 aa.part (Z.a 4) (Z.a 5)) Z fun w Z=>?_
   cases aQ:(Au aa.part)
   ·exact .r 2<|.d<|.ct<|.s<|.g<|.r 1<|.d<|T.rt func45 results45 (.bool false) ⟨(AG (by symm; exact Tz (Mi ‹_› ‹_› (.inr (.inr ‹_›))))),Z.xt⟩
   exact .r 2<|.d<|.cf<|.sk<|.ib 1<|.g<|RG.int ((k:Int)+1) AA (by have q1:=p0.next; omega)<|.r 1<|.d<|E (k+1) _ _ AA (Z.to 1 [] 6) ⟨AB,(by exact Nr ‹_› ‹_› ‹_› ‹_› (.inr ⟨_,by assumption,by assumption⟩) ‹_›)⟩ (by (simp only []; omega))
  refine .r [10]<|GA.Sk Z fun w Z=>.r 5<|RG.Ln 0 Z<|RG.C0 (C4 aa.part (Z.a 1) (Z.a 2)) Z fun w Z=>?_
  cases aR:(Au aa.part)
  ·exact .r 2<|.d<|.ct<|.s<|.g<|.r 1<|.d<|T.rt func45 results45 (.bool false) ⟨(AG (by symm; exact Tz (Mi ‹_› ‹_› (.inr (.inr ‹_›))))),Z.xt⟩
  exact .r 2<|.d<|.cf<|.sk<|.ib 1<|.g<|RG.int ((k:Int)+1) AA (by have q1:=p0.next; omega)<|.r 1<|.d<|E (k+1) _ _ AA (Z.to 1 [] 3) ⟨AB,(by exact Nr ‹_› ‹_› ‹_› ‹_› (.inl AB) ‹_›)⟩ (by (simp only []; omega))
 refine .d<|.s<|.cf<|.x 0 rfl<|.s<|.s<|.g<|.r 1<|RG.Lb 0 Z<|.r 2<|.d<|.b 2<|T.Lp (0:Nat) (fun k=>([(1,vP ak),(62,.slice a2 d.list.length c2),(63,vI (d.list.length:Int)),(64,vI (k:Int))],[],[],d.list.length - k,(k≤d.list.length)∧(Db d.next none d.files=true)∧(SC d k))) [] Z ⟨AD,(by exact Ty ‹_› AB),(by exact VH _)⟩ ?_
 rintro k bn w Z ⟨aS,aT,aU⟩ af
 refine .s<|.g<|.bp ((k:Int)< (d.list.length:Int)) (fun au=>?_) (fun au=>?_)
 ·refine .d<|.s<|.ct<|.sk<|.s<|.b 3<|.s<|.g<|.r 1<|gx d.list k fun ag ae=>RG.Ix 1 ae Z<|Z.el 1 ae fun Z=>RG.Lh 0 0 Z<|.r 2<|.d<|.s<|.g<|RG.Ln 0 Z<|.r 1<|RG.C0 (Cq d ag (Z.a 3) (Z.a 2) (Z.a 1)) Z fun w Z=>.bp (At d ag< 0) (fun ax=>.r 8<|.d<|.ct<|.s<|.g<|.r 1<|.d<|T.rt func45 results45 (.bool false) ⟨(AG (by symm; exact WH (VI ‹_› ‹_›))),Z.xt⟩) fun ax=>.r 2<|RG.Lb 0 Z<|.r 1<|RG.Sb (hhi:=bdS AA) 2 0 k d.list Z fun bo bq Z=>.r 1<|RG.C0 (Cb ((d.list.take k).drop 0) ag (Z.a 0)) Z fun w Z=>?_
  cases aW:((d.list.take k).drop 0).contains ag
  ·exact .r 1<|.d<|.cf<|.sk<|.ib 3<|.g<|RG.int ((k:Int)+1) AA (by have q1:=p0.next; omega)<|.r 1<|.d<|af (k+1) _ _ AA (Z.to 0 [] 2) ⟨AB,‹_›,(by exact QZ ‹_› ‹_› ‹_› (SE ‹_›) (Nat.le_refl _))⟩ (by (simp only []; omega))
  exact .r 1<|.d<|.ct<|.s<|.g<|.r 1<|.d<|T.rt func45 results45 (.bool false) ⟨(AG (by symm; exact WH (VK ‹_› ‹_›))),Z.xt⟩
 refine .d<|.s<|.cf<|.x 2 rfl<|.s<|.g<|RG.Ln 0 Z<|RG.cl (EN d (Z.a 2) (Z.a 1) (Z.a 0) p0 (EY (Ns ‹_› AB))) ?_
 rintro br w ⟨⟨aj,aE,aX⟩,ay⟩
 refine RG.vS Z aE ay ?_
 intro bt bu bv bw bz bA bB bC Z
 exact RG.C0 (Ec aj (Z.a 0) (Z.a 1) (Z.a 2) (Z.a 3) (D9.sg (by assumption:D9 d _) p0)) Z fun w Z=>.r 1<|.d<|T.rt func45 results45 (.bool (nmB aj.idx.names&&Ac aj)) ⟨(AG (by exact D9.dk (by assumption:D9 d _) p0 ‹_› AB AB ‹_› (Ns ‹_› AB))),Z.xt⟩
theorem CJ (d:Dsk) (h1:RepS w F a1 n1 c1 d.files) (h2:RepS w F a2 n2 c2 d.list) (h3:RepS w F a3 n3 c3 d.names) (p0:DD d):Calls Tryz.prog 26 [.agg #[.slice a1 n1 c1,.slice a2 n2 c2,.slice a3 n3 c3,.int .i64 d.next]].toArray w (Am fun rv w'=>VS (fo F w.heap.size) w' (Bg d:Sto) rv∧Ext w w'):=by
 cases h1.len
 cases h2.len
 cases h3.len
 refine goT func26 ?_
 have Z:=(((St.i0 F w).p h1).p h2).p h3
 refine .s<|.g<|RG.Np Z fun ai w Z=>RG.Np Z fun aj w Z=>.d<|.s<|.s<|.g<|RG.Ln 1 Z<|RG.C0 (C5 d (Z.a 2) (Z.a 1) (Z.a 0) p0) Z fun w Z=>?_
 cases ag:(Ax d)
 ·refine .r 1<|.d<|.ct<|.s<|.g<|.r 1<|RG.Ss 0 Z fun w Z=>.d ?_
  have Z:=(((Z.nl (List Tag)).nl Pst).nl Prt).nl Smp
  exact T.Rb 0 func26 results26 Z ⟨Z.rS (g:=1) (⟨(⟨([]:List (List Tag)),([]:List Pst)⟩:Idx),([]:List Prt),([]:List Smp)⟩:Sto) [3,2,1,0] (by exact (T0 ‹_›).symm),Z.xt⟩
 refine .r 1<|.d<|.cf<|.sk<|.s<|.g<|RG.Ln 1 Z<|RG.cl (EN d (Z.a 2) (Z.a 1) (Z.a 0) p0 (EY (Fl ‹_›).2.2)) ?_
 rintro ak w ⟨⟨aa,ab,ah⟩,E⟩
 refine RG.vS Z ab E ?_
 intro al am ao aq ar au ax ay Z
 exact RG.Ss 0 Z fun w Z=>.d<|T.Rb 0 func26 results26 Z ⟨Z.rS (g:=1) aa [0,1,2,3] (by exact D9.eq (by assumption:D9 d _) p0 ‹_›),Z.xt⟩
end Go.Proofs.YtggnnidleedpaaaGreat
namespace Go.Proofs.YtggnnidleedpaaaGreat
structure MI (s y:Sto) (i:Nat):Prop where
 sd:SD y
 ok:Ac y=true
 idx:y.idx=s.idx
 mem:y.mem=s.mem
 lo:1≤y.parts.length
 hi:y.parts.length≤1∨y.parts.length+i≤6
 rows:∀ id:Int,1≤id→id≤6→y.parts.foldl (Bq id) []=s.parts.foldl (Bq id) []
theorem MI.step {s y:Sto}{i:Nat}{a:Int}(h:MI s y i) (h1:(BM y a).2=true):MI s (BM y a).1 (i+1):=by
 obtain ⟨hk,h2,h3,e⟩:=IT h.sd h1
 have hl:=QY h.sd h1
 refine ⟨SA h.sd h1,(Ot h.sd h1).2,by rw [e]; exact h.idx,by rw [e]; exact h.mem,by omega,?_,fun id a1 a2=>?_⟩
 ·have:=h.hi; omega
 ·rw [e,(EX (StoK.of h.sd hk) AB a1 a2).1]
  exact h.rows id a1 a2
theorem MI.start {s:Sto}{a:Int}(h:SD s) (h1:(BM s a).2=true):MI s s 0∧MI s (BM s a).1 0:=by
 obtain ⟨hk,h2,h3,e⟩:=IT h h1
 have h0:MI s s 0:=⟨h,hk,rfl,rfl,by omega,.inr (by have:=h.np; omega),fun _ _ _=>rfl⟩
 have h4:=h0.step h1
 exact ⟨h0,h4.sd,h4.ok,h4.idx,h4.mem,h4.lo,by have:=h4.hi; omega,h4.rows⟩
theorem MI.one {s y:Sto}{i:Nat}(h:MI s y i) (hi:6≤i):y.parts.length=1:=by have:=h.lo; have:=h.hi; omega
theorem SH:∀ (is:List Int) (bs:List (List Row)) (o:Option Int),Bo o is bs=true→is.length=bs.length→∀ is' bs',Bo o is' bs'=true→is'.length=bs'.length→(∀ id:Int,Ba id is bs=Ba id is' bs')→is=is'∧bs=bs':=by
 have low:∀ (is:List Int) (bs:List (List Row)) (o:Option Int),Bo o is bs=true→∀ q,o=some q→∀ i∈is,q< i:=by
  intro is
  induction is with
  | nil=>intro bs o _ q _ i hi; cases hi
  | cons x xs ih =>
    intro bs o hg q hq i hi
    cases bs with
    | nil=>simp [Bo] at hg
    | cons b bs =>
      simp only [Bo,AW] at hg
      have hx:q< x:=by have:=hg.1.1.1.2; rw [hq] at this; simpa using this
      rcases List.mem_cons.1 hi with rfl | hi
      ·exact hx
      ·have:=ih bs (some x) hg.2 x rfl i hi; omega
 have none_of:∀ (is:List Int) (bs:List (List Row)) (id:Int),(∀ i∈is,i≠id)→Ba id is bs=[]:=by
  intro is
  induction is with
  | nil=>intro bs id _; unfold Ba; rfl
  | cons i is ih =>
    intro bs id h
    cases bs with
    | nil=>unfold Ba; rfl
    | cons b bs =>
      unfold Ba
      rw [if_neg (by have:=h i AD; simpa using this)]
      exact ih bs id (fun j hj=>h j (by simp [hj]))
 have mem_of:∀ (is:List Int) (bs:List (List Row)) (id:Int),Ba id is bs≠[]→id∈is:=by
  intro is bs id h
  rcases Classical.em (id∈is) with h1 | h1
  ·exact h1
  ·exact absurd (none_of is bs id (fun i hi e=>h1 (e▸hi))) h
 intro is
 induction is with
 | nil =>
   intro bs o hg hl is' bs' hg' hl' h
   cases bs with
   | cons _ _=>simp at hl
   | nil =>
     cases is' with
     | nil =>
       cases bs' with
       | nil=>exact ⟨rfl,rfl⟩
       | cons _ _=>simp at hl'
     | cons i is' =>
       cases bs' with
       | nil=>simp at hl'
       | cons b bs' =>
         simp only [Bo,AW,decide_eq_true_eq] at hg'
         have:=h i
         unfold Ba at this
         rw [if_pos AD] at this
         rw [← this] at hg'
         exact absurd hg'.1.1.2 AD
 | cons i is ih =>
   intro bs o hg hl is' bs' hg' hl' h
   cases bs with
   | nil=>simp at hl
   | cons b bs =>
     have hg0:=hg
     simp only [Bo,AW,decide_eq_true_eq] at hg
     cases is' with
     | nil =>
       cases bs' with
       | cons _ _=>simp at hl'
       | nil =>
         have:=h i
         unfold Ba at this
         rw [if_pos AD] at this
         rw [this] at hg
         exact absurd hg.1.1.2 AD
     | cons i' is' =>
       cases bs' with
       | nil=>simp at hl'
       | cons b' bs' =>
         have hg0':=hg'
         simp only [Bo,AW,decide_eq_true_eq] at hg'
         have a1:Ba i (i'::is') (b'::bs')=b:=by rw [← h i]; unfold Ba; rw [if_pos AD]
         have a2:Ba i' (i::is) (b::bs)=b':=by rw [h i']; unfold Ba; rw [if_pos AD]
         have m1:=mem_of _ _ i (by rw [a1]; exact List.ne_nil_of_length_pos hg.1.1.2)
         have m2:=mem_of _ _ i' (by rw [a2]; exact List.ne_nil_of_length_pos hg'.1.1.2)
         have hii:i=i':=by
          rcases List.mem_cons.1 m1 with e | e
          ·exact e
          ·rcases List.mem_cons.1 m2 with e2 | e2
           ·exact e2.symm
           ·have:=low is' bs' (some i') hg'.2 i' rfl i e
            have:=low is bs (some i) hg.2 i rfl i' e2
            omega
         subst hii
         have hbb:b=b':=by
          rw [← a1]
          unfold Ba
          rw [if_pos AD]
         subst hbb
         have:=ih bs (some i) hg.2 (by simpa using hl) is' bs' hg'.2 (by simpa using hl') (fun id=>by
          by_cases e:i=id
          ·subst e
           rw [none_of is bs i (fun j hj e=>by have:=low is bs (some i) hg.2 i rfl j hj; omega),none_of is' bs' i (fun j hj e=>by have:=low is' bs' (some i) hg'.2 i rfl j hj; omega)]
          ·have:=h id
           unfold Ba at this
           rw [if_neg (by simpa using e),if_neg (by simpa using e)] at this
           exact this)
         rw [this.1,this.2]
         exact ⟨rfl,rfl⟩
theorem Nt {p q:Prt}(hp:Au p=true) (hq:Au q=true) (h:∀ id:Int,partOf p id=partOf q id):p=q:=by
 unfold Au at hp hq
 simp only [AW,decide_eq_true_eq] at hp hq
 obtain ⟨e1,e2⟩:=SH p.ids p.blocks none hp.2 hp.1 q.ids q.blocks hq.2 hq.1 h
 cases p
 cases q
 simp only [Prt.mk.injEq]
 exact ⟨e1,e2⟩
theorem MI.same {s y z:Sto}{i:Nat}(hy:MI s y i) (hz:MI s z i) (hi:6≤i){p q:Prt}(hp:y.parts[0]? = some p) (hq:z.parts[0]? = some q) (hf:(p==q)=false):False:=by
 have l1:=hy.one hi
 have l2:=hz.one hi
 have e1:y.parts=[p]:=by
  match hh:y.parts,l1 with
  | [x],_=>rw [hh] at hp; simp at hp; rw [hp]
 have e2:z.parts=[q]:=by
  match hh:z.parts,l2 with
  | [x],_=>rw [hh] at hq; simp at hq; rw [hq]
 have kp:=(StoK.of hy.sd hy.ok).part p (by rw [e1]; simp)
 have kq:=(StoK.of hz.sd hz.ok).part q (by rw [e2]; simp)
 have key:p=q:=Nt kp.2 kq.2 (fun id=>by
  by_cases hid:1≤id∧id≤6
  ·have h1:=hy.rows id hid.1 hid.2
   have h2:=hz.rows id hid.1 hid.2
   rw [e1] at h1
   rw [e2] at h2
   simp only [List.foldl_cons,List.foldl_nil] at h1 h2
   unfold Bq at h1 h2
   rw [Kp (kp.1.of id)] at h1
   rw [Kp (kq.1.of id)] at h2
   rw [h1,h2]
  ·have g:∀ p:Prt,Au p=true→partOf p id=[]:=fun p hp=>by
    unfold Au at hp
    simp only [AW,decide_eq_true_eq] at hp
    have key:∀ (is:List Int) (bs:List (List Row)) (o:Option Int),Bo o is bs=true→Ba id is bs=[]:=by
     intro is
     induction is with
     | nil=>intro bs o _; unfold Ba; rfl
     | cons i is ih =>
       intro bs o hg
       cases bs with
       | nil=>unfold Ba; rfl
       | cons b bs =>
         simp only [Bo,AW] at hg
         have h5:=By hg.1.1.1.1
         unfold Ba
         rw [if_neg (by simp; omega)]
         exact ih bs _ hg.2
    exact key _ _ _ hp.2
   rw [g p kp.2,g q kq.2])
 rw [key] at hf
 simp at hf
end Go.Proofs.YtggnnidleedpaaaGreat
namespace Go.Proofs.YtggnnidleedpaaaGreat
theorem WD.dd {w:Wld}(h:WD w):DD w.disk:=⟨NmG.of h.wi.dsk.nm h.dn,by have:=h.wi.dsk.nl; omega,h.wi.dsk.nf,h.wi.dsk.file,by have:=h.wi.dsk.next; omega⟩
end Go.Proofs.YtggnnidleedpaaaGreat
namespace Go.Proofs.YtggnnidleedpaaaGreat
theorem RG.b2s {P:Program}{n:Nat}{K:Env→World→Prop}{ops:Array Oper}{j:Nat}{e:Env}{w:World}{s d:TypeId}{r c:Nat}{y:UInt8}{t:TypeId}{F:Nat→Prop}
 (ho:Own w r t F 1 c [y]) (h:RC n ops j e=some (s,d,.slice (some ⟨r,0,none⟩) 1 c)) (ht:TK P s d=true)
 (H:RG P n K ops (j+1) (Ah e (Ad ops j).dst (.string (bs [y]))) w):RG P n K ops j e w:=by
 obtain ⟨cs,h1,h2⟩:=ho.elem 0 y rfl
 cases h1
 have h3:Has w ⟨r,0,none⟩ [.int .u8 (y.toNat:Int)]:=by simpa using h2
 have h4:=Is (P:=P) (w:=w) h (Ke h3 ht)
 exact RG.val h4.1 h4.2 H
theorem Nu:∀ (fs:List Fil) (nx:Int) (o:Option Int),Db nx o fs=true→∀ f∈fs,1≤f.num∧f.num≤nx - 1∧Au f.part=true:=by
 intro fs
 induction fs with
 | nil=>intro nx o _ f hf; cases hf
 | cons x xs ih =>
   intro nx o h f hf
   unfold Db at h
   simp only [AW] at h
   rcases List.mem_cons.1 hf with rfl | hf
   ·have:=By h.1.1.1
    exact ⟨this.1,this.2,h.1.2⟩
   ·exact ih nx _ h.2 f hf
theorem Ou {p:Prt}(h:PrtI p) (hk:Au p=true):BC p ⟨[],[]⟩=p:=by
 have hb:∀ id:Int,(partOf p id).length≤24:=fun id=>by
  have:=Fj hk id
  unfold Bf at this
  simp only [AW,decide_eq_true_eq] at this
  exact this.2
 have e:∀ id:Int,partOf (⟨[],[]⟩:Prt) id=[]:=fun id=>by unfold partOf Ba; rfl
 have hz:∀ id:Int,¬ (1≤id∧id≤6)→∀ q:Prt,Au q=true→partOf q id=[]:=fun id hid q hq=>by
  unfold Au at hq
  simp only [AW,decide_eq_true_eq] at hq
  have key:∀ (is:List Int) (bs:List (List Row)) (o:Option Int),Bo o is bs=true→Ba id is bs=[]:=by
   intro is
   induction is with
   | nil=>intro bs o _; unfold Ba; rfl
   | cons i is ih =>
     intro bs o hg
     cases bs with
     | nil=>unfold Ba; rfl
     | cons b bs =>
       simp only [Bo,AW] at hg
       have h5:=By hg.1.1.1.1
       unfold Ba
       rw [if_neg (by simp; omega)]
       exact ih bs _ hg.2
  exact key _ _ _ hq.2
 have hm:Au (BC p ⟨[],[]⟩)=true:=by
  unfold BC
  refine NX (fun b hb2=>?_) (by rw [Dr]; omega)
  unfold BT at hb2
  obtain ⟨i,_,rfl⟩:=List.mem_map.1 hb2
  rw [e,Kn]
  exact ⟨h.of _,hb _⟩
 refine Nt hm hk (fun id=>?_)
 by_cases hid:1≤id∧id≤6
 ·rw [Lx _ _ hid.1 hid.2,e,Kn]
 ·rw [hz id hid _ hm,hz id hid _ hk]
theorem C2 {d:Dsk}(h:Ax d=true):(1≤d.next∧d.next≤999)∧d.list.length≤6∧Db d.next none d.files=true∧Du d=true:=by
 unfold Ax at h
 simp only [AW,decide_eq_true_eq] at h
 exact ⟨By h.1.1.1.1.1,h.1.1.1.2,h.1.1.2,h.1.2⟩
theorem DD.UY {d:Dsk}(h:DD d) (hk:Ax d=true):BH d=d:=by
 have hf:=(C2 hk).2.2.1
 have:d.files.map Kb=d.files:=by
  have key:∀ f∈d.files,Kb f=f:=fun f hm=>by
   unfold Kb
   rw [Ou (h.file f hm) (Nu _ _ _ hf f hm).2.2]
  exact (List.map_congr_left key).trans (List.map_id _)
 unfold BH
 rw [this]
theorem DD.di {d:Dsk}(h:DD d) (hk:Ax d=true):DskI d:=by
 obtain ⟨h1,h2,h3,h4⟩:=C2 hk
 have hth:∀ n∈d.list,∃ f∈d.files,f.num=n:=fun n hn=>(E4 d n).1 (EY h4 n hn)
 refine ⟨(Fl hk).1,h.nf,h.file,h2,hth,fun n hn=>?_,h1⟩
 obtain ⟨f,hf,rfl⟩:=hth n hn
 have:=Nu _ _ _ h3 f hf
 omega
theorem SI:(IH 0 [] []).length≤12:=by decide
theorem SJ:DD ⟨[],[],[],0⟩:=⟨⟨by simp,NsD.nil,SI⟩,by simp,by simp,by simp,by simp⟩
end Go.Proofs.YtggnnidleedpaaaGreat
namespace Go.Proofs.YtggnnidleedpaaaGreat
def CY (d:Dsk) (s:Sto):Bool:=Ax d&&(nmB s.idx.names&&Ac s)&&decide (s.parts=d.list.map (Av d))&&decide (d.names=s.idx.names.take d.names.length)
theorem VN {d:Dsk}{s:Sto}(h:Ax d=false):false=CY d s:=by unfold CY; rw [h]; rfl
theorem VP {d:Dsk}{s:Sto}(h:(nmB s.idx.names&&Ac s)=false):false=CY d s:=by unfold CY; rw [h,Bool.and_false]; rfl
theorem VQ {d:Dsk}{s:Sto}(h:s.parts≠d.list.map (Av d)):false=CY d s:=by unfold CY; rw [decide_eq_false h,Bool.and_false]; rfl
theorem SK {d:Dsk}{s:Sto}(h:d.names≠s.idx.names.take d.names.length):false=CY d s:=by unfold CY; rw [decide_eq_false h,Bool.and_false]
theorem T1 {d:Dsk}{s:Sto}(h:(s.idx.names.length:Int)< d.names.length):false=CY d s:=SK (fun e=>by
 have:=congrArg List.length e
 rw [List.length_take] at this
 omega)
theorem Nv {d:Dsk}{s:Sto}(h1:Ax d=true) (h2:(nmB s.idx.names&&Ac s)=true) (h3:s.parts=d.list.map (Av d)) (h4:d.names=s.idx.names.take d.names.length):true=CY d s:=by unfold CY; rw [h1,h2,decide_eq_true h3,decide_eq_true h4]; rfl
structure Fits (d:Dsk) (s:Sto):Prop where
 dk:Ax d=true
 nm:nmB s.idx.names=true
 sk:Ac s=true
 p:s.parts=d.list.map (Av d)
 m:d.names=s.idx.names.take d.names.length
theorem DA {d:Dsk}{s:Sto}(h:CY d s=true):Fits d s:=by
 unfold CY at h
 simp only [AW,decide_eq_true_eq] at h
 exact ⟨h.1.1.1,h.1.1.2.1,h.1.1.2.2,h.1.2,h.2⟩
def Af (d:Dsk) (s:Sto):List Stp:=if CY d s then As d s else []
theorem E7 {d:Dsk}{s:Sto}(h:CY d s=true):Af d s=As d s:=by unfold Af; rw [if_pos h]
theorem Nw {d:Dsk}{s:Sto}(h:CY d s=false):Af d s=[]:=by unfold Af; rw [if_neg (by simp [h])]
end Go.Proofs.YtggnnidleedpaaaGreat
namespace Go.Proofs.YtggnnidleedpaaaGreat
theorem VR {d:Dsk}{s y:Sto}(hy:D9 d y) (h:(s.parts==y.parts)=false):false=CY d s:=VQ (fun e=>by
 have e2:s.parts=y.parts:=e.trans hy.2.1.symm
 rw [e2] at h
 simp at h)
theorem VT {d:Dsk}{s y:Sto}(hy:D9 d y) (h:(s.parts==y.parts)=true):s.parts=d.list.map (Av d):=(eq_of_beq h).trans hy.2.1
theorem VU {d:Dsk}{s:Sto}(h:¬ (d.names.length:Int)≤s.idx.names.length):false=CY d s:=T1 AB
theorem VV {d:Dsk}{s y:Sto}{l:List (List Tag)}(hy:D9 d y) (h1:Ax d=true) (h2:(nmB s.idx.names&&Ac s)=true) (h3:(s.parts==y.parts)=true) (hl:l=s.idx.names.take d.names.length):(d.names==l)=CY d s:=by
 subst hl
 by_cases e:d.names=s.idx.names.take d.names.length
 ·rw [beq_iff_eq.2 e]
  exact Nv h1 h2 (VT hy h3) e
 ·rw [beq_eq_false_iff_ne.2 e]
  exact SK e
def Ej (d:Dsk):Bool:=(d.next==999) || decide ((d.files.length:Int)=20)
theorem T3 {d:Dsk}(h:(d.next==999)=true):true=Ej d:=by unfold Ej; rw [h]; rfl
theorem SL {d:Dsk}(h:d.next=999):true=Ej d:=T3 (by simp [h])
theorem T4 {d:Dsk}(h:¬ d.next=999):((d.files.length:Int)==20)=Ej d:=by unfold Ej; rw [beq_eq_false_iff_ne.2 h,Bool.false_or]; by_cases e:(d.files.length:Int)=20 <;> simp [e]
theorem Ph {d:Dsk}(h:Ej d=false):¬ d.next=999∧¬ (d.files.length:Int)=20:=by
 unfold Ej at h
 simpa using h
theorem Pj {d:Dsk}(h:Ej d=true):d.next=999∨(d.files.length:Int)=20:=by
 unfold Ej at h
 simpa using h
theorem WJ {d:Dsk}{s:Sto}(h:CY d s=false):[]=Af d s:=(Nw h).symm
theorem VW {d:Dsk}{s:Sto}(h:(s.mem.length:Int)=0∨(d.list.length:Int)=6∨Ej d=true):[]=Af d s:=by
 cases hf:CY d s with
 | false=>exact WJ hf
 | true =>
   rw [E7 hf,EK]
   rcases h with h | h | h
   ·exact .inl h
   ·exact .inr (.inl AB)
   ·rcases Pj h with h | h
    ·exact .inr (.inr (.inl AB))
    ·exact .inr (.inr (.inr AB))
theorem Nx {d:Dsk}{s:Sto}(hf:CY d s=true) (h1:¬ (s.mem.length:Int)=0) (h2:¬ (d.list.length:Int)=6) (h3:Ej d=false) (hd:DD d):[⟨1,d.next,Ai s.mem,[],[]⟩,⟨2,0,⟨[],[]⟩,d.list++[d.next],s.idx.names⟩]=Af d s:=by
 have hk:=(DA hf).dk
 have:=(C2 hk).2.1
 have:=(C2 hk).1
 have:=hd.nf
 have:=Ph h3
 rw [E7 hf,DJ h1 AB AB AB]
theorem C6 {d:Dsk}{s:Sto}(hs:SG s) (h:CY d s=true):SD s:=by
 obtain ⟨h1,h2,h3,h4,h5⟩:=DA h
 exact hs.sd h2 (Mf h3)
end Go.Proofs.YtggnnidleedpaaaGreat
namespace Go.Proofs.YtggnnidleedpaaaGreat
set_option maxRecDepth 100000
set_option maxHeartbeats 4000000
variable {w:World} {F:Nat→Prop} {a1 a2 a3 a4 a5 a6 a7:Option Addr} {n1 c1 n2 c2 n3 c3 n4 c4 n5 c5 n6 c6 n7 c7:Nat}
theorem EA (a:List Row) (b:List Row) (h1:RepS w F a1 n1 c1 a) (h2:RepS w F a2 n2 c2 b)  : Calls Tryz.prog 119 [.slice a1 n1 c1,.slice a2 n2 c2].toArray w (Am fun rv w'=>rv=.bool ((a==b))∧Ext w w'):=by
 cases h1.len
 cases h2.len
 refine goT func119 ?_
 have Z:=((St.i0 F w).p h1).p h2
 have aj:=h1.max
 refine .s<|.g<|.r 1<|.d<|.s<|.s<|.g<|.r 4<|.ne (a.length:Int) (b.length:Int) (fun ac=>.d<|.ct<|.s<|.g<|.r 1<|.d<|T.rt func119 results119 (.bool false) ⟨(AG (by grind [Aa])),Z.xt⟩) fun ac=>.d<|.cf<|.sk<|.s<|.s<|.g<|.r 3<|.d<|.b 0<|T.Lp (0:Nat) (fun k=>([(0,.slice a1 a.length c1),(1,.slice a2 b.length c2),(12,vI (a.length:Int)),(13,vI (k:Int))],[],[],a.length - k,(k≤a.length)∧(a.drop k=b.drop k↔a=b))) [] Z ⟨AD,AD⟩ ?_
 rintro k au w Z ⟨al,am⟩ ab
 refine .s<|.g<|.bp ((k:Int)< (a.length:Int)) (fun ae=>?_) (fun ae=>.d<|.s<|.cf<|.x 0 rfl<|.s<|.g<|.r 1<|.d<|T.rt func119 results119 (.bool true) ⟨(AG (by grind [Aa])),Z.xt⟩)
 refine .d<|.s<|.ct<|.sk<|.s<|.b 1<|.s<|.g<|.r 2<|.d<|.s<|T.Gd 8 Z fun w Z=>.r [0,1]<|gxd a k fun af E ao=>GA.Ix 2 1 E Z<|Z.el 1 E fun Z=>GA.Lg 3 0 0 Z<|.r [4,5]<|gxd b k fun ag aa aq=>GA.Ix 6 1 aa Z<|Z.el 1 aa fun Z=>GA.Lg 7 0 0 Z<|GA.Dn Z fun w Z=>RG.Qs (t:=56) (x:=af) (y:=ag) AA AA ?_
 cases ar:(af==ag)
 ·exact .d<|.ct<|.s<|.g<|.r 1<|.d<|T.rt func119 results119 (.bool false) ⟨(AG (by grind [Aa])),Z.xt⟩
 exact .d<|.cf<|.sk<|.ib 1<|.g<|.it ((k:Int)+1)<|.r 1<|.d<|ab (k+1) _ _ AA (Z.to 0 [] 2) ⟨AB,(by grind)⟩ (by (simp only []; omega))
theorem Hm (s1:List (List Row)) (s2:List (List Row)) (h1:RepS w F a1 n1 c1 s1) (h2:RepS w F a2 n2 c2 s2)  : Calls Tryz.prog 118 [.slice a1 n1 c1,.slice a2 n2 c2,.func (.func 119) #[] #[]].toArray w (Am fun rv w'=>rv=.bool ((s1==s2))∧Ext w w'):=by
 cases h1.len
 cases h2.len
 refine goT func118 ?_
 have Z:=((St.i0 F w).p h1).p h2
 have aj:=h1.max
 refine .s<|.g<|.r 1<|.d<|.s<|.s<|.g<|.r 4<|.ne (s1.length:Int) (s2.length:Int) (fun ac=>.d<|.ct<|.s<|.g<|.r 1<|.d<|T.rt func118 results118 (.bool false) ⟨(AG (by grind [Aa])),Z.xt⟩) fun ac=>.d<|.cf<|.sk<|.s<|.s<|.g<|.r 3<|.d<|.b 0<|T.Lp (0:Nat) (fun k=>([(1,.slice a2 s2.length c2),(2,.func (.func 119) #[] #[]),(15,.slice a1 s1.length c1),(16,vI (s1.length:Int)),(17,vI (k:Int))],[],[],s1.length - k,(k≤s1.length)∧(s1.drop k=s2.drop k↔s1=s2))) [] Z ⟨AD,AD⟩ ?_
 rintro k au w Z ⟨al,am⟩ ab
 refine .s<|.g<|.bp ((k:Int)< (s1.length:Int)) (fun ae=>?_) (fun ae=>.d<|.s<|.cf<|.x 0 rfl<|.s<|.g<|.r 1<|.d<|T.rt func118 results118 (.bool true) ⟨(AG (by grind [Aa])),Z.xt⟩)
 refine .d<|.s<|.ct<|.sk<|.s<|.b 1<|.s<|.g<|.r 1<|gxd s1 k fun af E ao=>RG.Ix 1 E Z<|Z.el 1 E fun ax ay Z=>RG.Lh 0 0 Z<|.r 2<|.d<|.s<|.g<|.r 2<|gxd s2 k fun ag aa aq=>RG.Ix 2 aa Z<|Z.el 2 aa fun az aA Z=>RG.Lh 0 0 Z<|.r 1<|.d<|.s<|.g<|.r 3<|RG.C0 (EA af ag (Z.a 3) (Z.a 1)) Z fun w Z=>?_
 cases ar:(af==ag)
 ·exact .r 1<|.d<|.ct<|.s<|.g<|.r 1<|.d<|T.rt func118 results118 (.bool false) ⟨(AG (by grind [Aa])),Z.xt⟩
 exact .r 1<|.d<|.cf<|.sk<|.ib 1<|.g<|.it ((k:Int)+1)<|.r 1<|.d<|ab (k+1) _ _ AA (Z.to 0 [] 4) ⟨AB,(by grind)⟩ (by (simp only []; omega))
theorem IV (s1:List (List Tag)) (s2:List (List Tag)) (h1:RepS w F a1 n1 c1 s1) (h2:RepS w F a2 n2 c2 s2)  : Calls Tryz.prog 76 [.slice a1 n1 c1,.slice a2 n2 c2,.func (.func 77) #[] #[]].toArray w (Am fun rv w'=>rv=.bool ((s1==s2))∧Ext w w'):=by
 cases h1.len
 cases h2.len
 refine goT func76 ?_
 have Z:=((St.i0 F w).p h1).p h2
 have aj:=h1.max
 refine .s<|.g<|.r 1<|.d<|.s<|.s<|.g<|.r 4<|.ne (s1.length:Int) (s2.length:Int) (fun ac=>.d<|.ct<|.s<|.g<|.r 1<|.d<|T.rt func76 results76 (.bool false) ⟨(AG (by grind [Aa])),Z.xt⟩) fun ac=>.d<|.cf<|.sk<|.s<|.s<|.g<|.r 3<|.d<|.b 0<|T.Lp (0:Nat) (fun k=>([(1,.slice a2 s2.length c2),(2,.func (.func 77) #[] #[]),(15,.slice a1 s1.length c1),(16,vI (s1.length:Int)),(17,vI (k:Int))],[],[],s1.length - k,(k≤s1.length)∧(s1.drop k=s2.drop k↔s1=s2))) [] Z ⟨AD,AD⟩ ?_
 rintro k au w Z ⟨al,am⟩ ab
 refine .s<|.g<|.bp ((k:Int)< (s1.length:Int)) (fun ae=>?_) (fun ae=>.d<|.s<|.cf<|.x 0 rfl<|.s<|.g<|.r 1<|.d<|T.rt func76 results76 (.bool true) ⟨(AG (by grind [Aa])),Z.xt⟩)
 refine .d<|.s<|.ct<|.sk<|.s<|.b 1<|.s<|.g<|.r 1<|gxd s1 k fun af E ao=>RG.Ix 1 E Z<|Z.el 1 E fun ax ay Z=>RG.Lh 0 0 Z<|.r 2<|.d<|.s<|.g<|.r 2<|gxd s2 k fun ag aa aq=>RG.Ix 2 aa Z<|Z.el 2 aa fun az aA Z=>RG.Lh 0 0 Z<|.r 1<|.d<|.s<|.g<|.r 3<|RG.C0 (Cd af ag (Z.a 3) (Z.a 1)) Z fun w Z=>?_
 cases ar:(af==ag)
 ·exact .r 1<|.d<|.ct<|.s<|.g<|.r 1<|.d<|T.rt func76 results76 (.bool false) ⟨(AG (by grind [Aa])),Z.xt⟩
 exact .r 1<|.d<|.cf<|.sk<|.ib 1<|.g<|.it ((k:Int)+1)<|.r 1<|.d<|ab (k+1) _ _ AA (Z.to 0 [] 4) ⟨AB,(by grind)⟩ (by (simp only []; omega))
theorem Jw (a:Prt) (b:Prt) (h1:RepS w F a1 n1 c1 a.ids) (h2:RepS w F a2 n2 c2 a.blocks) (h3:RepS w F a3 n3 c3 b.ids) (h4:RepS w F a4 n4 c4 b.blocks)  : Calls Tryz.prog 75 [.agg #[.slice a1 n1 c1,.slice a2 n2 c2],.agg #[.slice a3 n3 c3,.slice a4 n4 c4]].toArray w (Am fun rv w'=>rv=.bool ((a==b))∧Ext w w'):=by
 cases h1.len
 cases h2.len
 cases h3.len
 cases h4.len
 refine goT func75 ?_
 have Z:=((((St.i0 F w).p h1).p h2).p h3).p h4
 have E:=h1.max
 have aa:=h2.max
 have ab:=h3.max
 have ac:=h4.max
 refine .s<|.g<|RG.Np Z fun af w Z=>RG.Np Z fun ag w Z=>.r 1<|.d<|.s<|.g<|.r 1<|RG.Lb 1 Z<|.r 1<|RG.Lb 0 Z<|RG.C0 (Dy a.ids b.ids (Z.a 3) (Z.a 1)) Z fun w Z=>?_
 cases ae:(a.ids==b.ids)
 ·exact .r 8<|.d<|T.rt func75 results75 (.bool false) ⟨(AG (by cases a; cases b; grind)),Z.xt⟩
 exact .r 2<|RG.Lb 1 Z<|.r 1<|RG.Lb 0 Z<|RG.C0 (Hm a.blocks b.blocks (Z.a 2) (Z.a 0)) Z fun w Z=>.r 2<|.d<|T.rt func75 results75 (.bool (a.blocks==b.blocks)) ⟨(AG (by cases a; cases b; grind)),Z.xt⟩
theorem IW (s1:List Prt) (s2:List Prt) (h1:RepS w F a1 n1 c1 s1) (h2:RepS w F a2 n2 c2 s2)  : Calls Tryz.prog 74 [.slice a1 n1 c1,.slice a2 n2 c2,.func (.func 75) #[] #[]].toArray w (Am fun rv w'=>rv=.bool ((s1==s2))∧Ext w w'):=by
 cases h1.len
 cases h2.len
 refine goT func74 ?_
 have Z:=((St.i0 F w).p h1).p h2
 have aj:=h1.max
 refine .s<|.g<|.r 1<|.d<|.s<|.s<|.g<|.r 4<|.ne (s1.length:Int) (s2.length:Int) (fun ac=>.d<|.ct<|.s<|.g<|.r 1<|.d<|T.rt func74 results74 (.bool false) ⟨(AG (by grind [Aa])),Z.xt⟩) fun ac=>.d<|.cf<|.sk<|.s<|.s<|.g<|.r 3<|.d<|.b 0<|T.Lp (0:Nat) (fun k=>([(1,.slice a2 s2.length c2),(2,.func (.func 75) #[] #[]),(15,.slice a1 s1.length c1),(16,vI (s1.length:Int)),(17,vI (k:Int))],[],[],s1.length - k,(k≤s1.length)∧(s1.drop k=s2.drop k↔s1=s2))) [] Z ⟨AD,AD⟩ ?_
 rintro k au w Z ⟨al,am⟩ ab
 refine .s<|.g<|.bp ((k:Int)< (s1.length:Int)) (fun ae=>?_) (fun ae=>.d<|.s<|.cf<|.x 0 rfl<|.s<|.g<|.r 1<|.d<|T.rt func74 results74 (.bool true) ⟨(AG (by grind [Aa])),Z.xt⟩)
 refine .d<|.s<|.ct<|.sk<|.s<|.b 1<|.s<|.g<|.r 1<|gxd s1 k fun af E ao=>RG.Ix 1 E Z<|Z.el 1 E fun ax ay az aA Z=>RG.Lg 0 0 Z<|RG.Np Z fun aB w Z=>.r 1<|RG.Ss 0 Z fun w Z=>.d<|.s<|.g<|.r 2<|gxd s2 k fun ag aa aq=>RG.Ix 3 aa Z<|Z.el 3 aa fun aC aD aE aF Z=>RG.Lg 0 0 Z<|RG.Np Z fun aG w Z=>RG.Ss 0 Z fun w Z=>.d<|.s<|.g<|.r 1<|RG.Ln 1 Z<|RG.Ln 0 Z<|RG.C0 (Jw af ag (Z.a 4) (Z.a 5) (Z.a 1) (Z.a 2)) Z fun w Z=>?_
 cases ar:(af==ag)
 ·exact .r 1<|.d<|.ct<|.s<|.g<|.r 1<|.d<|T.rt func74 results74 (.bool false) ⟨(AG (by grind [Aa])),Z.xt⟩
 exact .r 1<|.d<|.cf<|.sk<|.ib 1<|.g<|.it ((k:Int)+1)<|.r 1<|.d<|ab (k+1) _ _ AA (Z.to 2 [] 6) ⟨AB,(by grind)⟩ (by (simp only []; omega))
theorem Fm (d:Dsk) (h1:RepS w F a1 n1 c1 d.files) (h2:RepS w F a2 n2 c2 d.list) (h3:RepS w F a3 n3 c3 d.names)  : Calls Tryz.prog 97 [.agg #[.slice a1 n1 c1,.slice a2 n2 c2,.slice a3 n3 c3,.int .i64 d.next]].toArray w (Am fun rv w'=>rv=.bool (Ej d)∧Ext w w'):=by
 cases h1.len
 cases h2.len
 cases h3.len
 refine goT func97 ?_
 have Z:=(((St.i0 F w).p h1).p h2).p h3
 exact .s<|.g<|RG.Np Z fun ae w Z=>.r 1<|.d<|.s<|.g<|.r 1<|RG.Lb 0 Z<|.eq d.next 999 (fun E=>.r 7<|.d<|T.rt func97 results97 (.bool true) ⟨(AG (by exact SL ‹_›)),Z.xt⟩) fun E=>.r 2<|RG.Lb 0 Z<|.r 4<|.d<|T.rt func97 results97 (.bool ((d.files.length:Int)==20)) ⟨(AG (by exact T4 ‹_›)),Z.xt⟩
theorem Gv (s:Sto) (d:Dsk) (h1:RepS w F a1 n1 c1 s.idx.names) (h2:RepS w F a2 n2 c2 s.idx.AY) (h3:RepS w F a3 n3 c3 s.parts) (h4:RepS w F a4 n4 c4 s.mem) (h5:RepS w F a5 n5 c5 d.files) (h6:RepS w F a6 n6 c6 d.list) (h7:RepS w F a7 n7 c7 d.names) (p0:SG s) (p1:DD d):Calls Tryz.prog 40 [.agg #[.slice a1 n1 c1,.slice a2 n2 c2,.slice a3 n3 c3,.slice a4 n4 c4],.agg #[.slice a5 n5 c5,.slice a6 n6 c6,.slice a7 n7 c7,.int .i64 d.next]].toArray w (Am fun rv w'=>rv=.bool (CY d s)∧Ext w w'):=by
 cases h1.len
 cases h2.len
 cases h3.len
 cases h4.len
 cases h5.len
 cases h6.len
 cases h7.len
 refine goT func40 ?_
 have Z:=(((((((St.i0 F w).p h1).p h2).p h3).p h4).p h5).p h6).p h7
 have ak:=h7.max
 refine .s<|.g<|RG.Np Z fun ar w Z=>RG.Np Z fun au w Z=>.r 1<|.d<|.s<|.s<|T.Gd 14 Z fun w Z=>GA.Ln 0 1 Z<|GA.C0 1 Z (fun w Z=>Ec s (Z.a 6) (Z.a 5) (Z.a 4) (Z.a 3) p0) ?_
 cases al:(nmB s.idx.names&&Ac s)
 ·exact .r [2,3,4,5,6,7,8]<|GA.Sk Z fun w Z=>.r 3<|.d<|.ct<|.s<|.g<|.r 1<|.d<|T.rt func40 results40 (.bool false) ⟨(AG (by exact VP ‹_›)),Z.xt⟩
 refine .r [2,3]<|GA.Ln 4 0 Z<|GA.C0 5 Z (fun w Z=>C5 d (Z.a 2) (Z.a 1) (Z.a 0) p1) ?_
 cases am:(Ax d)
 ·exact .r [6,7,8]<|GA.Sk Z fun w Z=>.r 3<|.d<|.ct<|.s<|.g<|.r 1<|.d<|T.rt func40 results40 (.bool false) ⟨(AG (by exact VN ‹_›)),Z.xt⟩
 refine .r [6,7,8,9]<|GA.Lb 10 1 Z<|GA.Ln 11 0 Z<|.go 12<|GE.Cg (fun w Z=>EN d (Z.a 2) (Z.a 1) (Z.a 0) p1 (EY (C2 ‹_›).2.2.2)) Z ?_
 rintro w ax w Z ⟨⟨aa,ac,ao⟩,E⟩
 refine ⟨Ext.chg E,?_⟩
 refine GA.vS Z ac E ?_
 intro ay az aA aB aC aD aE aF Z
 refine .r [13]<|GA.Dn Z fun w Z=>RG.C0 (IW s.parts aa.parts (Z.a 8) (Z.a 2)) Z fun w Z=>?_
 cases aq:(s.parts==aa.parts)
 ·exact .r 2<|.d<|.ct<|.s<|.g<|.r 1<|.d<|T.rt func40 results40 (.bool false) ⟨(AG (by exact VR ‹_› ‹_›)),Z.xt⟩
 exact .r 2<|.d<|.cf<|.sk<|.s<|.g<|.r 1<|RG.Lb 0 Z<|.r 2<|.d<|.s<|T.Gd 14 Z fun w Z=>.r [0,1,2]<|GA.Lb 3 1 Z<|.r [4]<|GA.F6 (i:=5) ((d.names.length:Int)≤(s.idx.names.length:Int)) AA (fun ab=>.r [6,7]<|GA.Lb 8 0 Z<|.r [9,10]<|GA.Lb 11 1 Z<|.r [12]<|GA.Sb (hhi:=bdS AA) 13 10 0 d.names.length s.idx.names Z fun aG aH Z=>GA.Dn Z fun w Z=>RG.C0 (IV d.names ((s.idx.names.take d.names.length).drop 0) (Z.a 5) (Z.a 0)) Z fun w Z=>.r 2<|.d<|T.rt func40 results40 (.bool (d.names==((s.idx.names.take d.names.length).drop 0))) ⟨(AG (by exact VV ‹_› ‹_› ‹_› ‹_› AD)),Z.xt⟩) fun ab=>.r [6]<|GA.Sk Z fun w Z=>.r 3<|.d<|T.rt func40 results40 (.bool false) ⟨(AG (by exact VU ‹_›)),Z.xt⟩
theorem IY (d:Dsk) (s:Sto) (h1:RepS w F a1 n1 c1 d.files) (h2:RepS w F a2 n2 c2 d.list) (h3:RepS w F a3 n3 c3 d.names) (h4:RepS w F a4 n4 c4 s.idx.names) (h5:RepS w F a5 n5 c5 s.idx.AY) (h6:RepS w F a6 n6 c6 s.parts) (h7:RepS w F a7 n7 c7 s.mem) (p0:DD d) (p1:SG s):Calls Tryz.prog 55 [.agg #[.slice a1 n1 c1,.slice a2 n2 c2,.slice a3 n3 c3,.int .i64 d.next],.agg #[.slice a4 n4 c4,.slice a5 n5 c5,.slice a6 n6 c6,.slice a7 n7 c7]].toArray w (Am fun rv w'=>VL (ge w.heap.size) w' (Af d s:List Stp) rv∧Ext w w'):=by
 cases h1.len
 cases h2.len
 cases h3.len
 cases h4.len
 cases h5.len
 cases h6.len
 cases h7.len
 refine goT func55 ?_
 have Z:=(((((((St.i0 F w).p h1).p h2).p h3).p h4).p h5).p h6).p h7
 have af:=h2.max
 have ah:=h4.max
 have ak:=h7.max
 refine .s<|.g<|RG.Np Z fun ab w Z=>RG.Np Z fun ac w Z=>.r 1<|.d<|.s<|.s<|.g<|RG.Ln 0 Z<|RG.Ln 1 Z<|RG.C0 (Gv s d (Z.a 3) (Z.a 2) (Z.a 1) (Z.a 0) (Z.a 6) (Z.a 5) (Z.a 4) p1 p0) Z fun w Z=>?_
 cases al:(CY d s)
 ·exact .r 17<|.d<|.ct<|.s<|.g<|RG.N0 Stp 0 Z fun ba w Z=>.r 1<|.d<|T.Rt func55 results55 ⟨Z.rM 0 ([]:List Stp) (by exact WJ ‹_›),Z.xt⟩
 refine .r 3<|RG.Lb 0 Z<|.r 1<|.eq (s.mem.length:Int) 0 (fun E=>.r 11<|.d<|.ct<|.s<|.g<|RG.N0 Stp 0 Z fun bd w Z=>.r 1<|.d<|T.Rt func55 results55 ⟨Z.rM 0 ([]:List Stp) (by exact VW (.inl ‹_›)),Z.xt⟩) fun E=>.r 3<|RG.Lb 1 Z<|.r 1<|.eq (d.list.length:Int) 6 (fun aa=>.r 5<|.d<|.ct<|.s<|.g<|RG.N0 Stp 0 Z fun bg w Z=>.r 1<|.d<|T.Rt func55 results55 ⟨Z.rM 0 ([]:List Stp) (by exact VW (.inr (.inl ‹_›))),Z.xt⟩) fun aa=>.r 2<|RG.Ln 1 Z<|RG.C0 (Fm d (Z.a 6) (Z.a 5) (Z.a 4)) Z fun w Z=>?_
 cases am:(Ej d)
 ·refine .r 1<|.d<|.cf<|.sk<|.s<|T.GS 18 [ac,ab] Z fun _ w Z=>.r [0]<|GA.Lb (q:=1) 1 1 Z<|GA.Ln 2 0 Z<|.r [6]<|GA.Lb (q:=1) 7 1 Z<|.r [9]<|GA.Lb (q:=1) 10 1 Z<|.r [13,14]<|GA.Lb 15 0 Z<|GE.many [3,5,11] AA (all_cons ?_ (all_cons ?_ (all_cons ?_ all_nil)))
  ·refine GE.CS (fun w Z=>Br s (Z.a 3) (Z.a 2) (Z.a 1) (Z.a 0) (StoK.of (C6 p1 ‹_›) (DA ‹_›).sk).row (StoK.of (C6 p1 ‹_›) (DA ‹_›).sk).Jm.Iq (by have:=p1.nm2; omega)) Z fun bh bi bj bk w Z=>.r [4]<|.tw 5 11 ?_ ?_
   ·refine GE.N0 Int 0 Z fun bm w Z=>.tw 8 11 ?_ ?_
    ·exact GE.An (hs:=by (simp only [List.nil_append,List.length_nil,List.length_append,List.length_cons] <;> exact (by have:=p0.nl; omega))) (hf:=.inr Aw) 0 7 ([]:List Int) d.list [1,2] Z fun bn bo w Z=>.go 11<|GE.Nb 1 Z fun bq w Z=>.go 12<|GE.Ap (hs:=by (simp only [List.nil_append,List.length_nil,List.length_append,List.length_cons] <;> exact (by have:=p0.nl; omega))) 0 0 ([]++d.list) d.next [] [1,2] Z fun br bt w Z=>.go 16<|GE.CO 0 (fun w Z=>Ae s.idx.names (Z.a 5) (by have:=p1.ix.g.len; omega) (by (intro n hn; have:=(p1.ix.g.sz n hn).1; omega))) Z fun bu bv w Z=>.r [17]<|GA.Do Z fun w Z=>RG.Nl 0 ([(⟨1,d.next,(⟨(Ai s.mem).ids,(Ai s.mem).blocks⟩:Prt),([]:List Int),([]:List (List Tag))⟩:Stp),(⟨2,0,(⟨([]:List Int),([]:List (List Row))⟩:Prt),(([]++d.list)++[d.next]),s.idx.names⟩:Stp)]:List Stp) [[6,7,5,4],[1,0,3,2]] ((((((Z.nl Int).nl (List Tag)).sl 1).sl 0).nl Int).nl (List Row)) fun bw w Z=>.r 1<|.d<|T.Rt func55 results55 ⟨Z.rM 0 ([(⟨1,d.next,(⟨(Ai s.mem).ids,(Ai s.mem).blocks⟩:Prt),([]:List Int),([]:List (List Tag))⟩:Stp),(⟨2,0,(⟨([]:List Int),([]:List (List Row))⟩:Prt),(([]++d.list)++[d.next]),s.idx.names⟩:Stp)]:List Stp) (by exact Nx ‹_› ‹_› ‹_› ‹_› p0),Z.xt⟩
    exact GE.Nb 1 Z fun bz w Z=>.go 8<|GE.An (hs:=by (simp only [List.nil_append,List.length_nil,List.length_append,List.length_cons] <;> exact (by have:=p0.nl; omega))) (hf:=.inr Aw) 1 7 ([]:List Int) d.list [2,3] Z fun bA bB w Z=>.go 12<|GE.Ap (hs:=by (simp only [List.nil_append,List.length_nil,List.length_append,List.length_cons] <;> exact (by have:=p0.nl; omega))) 0 0 ([]++d.list) d.next [] [1,2] Z fun bC bD w Z=>.go 16<|GE.CO 0 (fun w Z=>Ae s.idx.names (Z.a 5) (by have:=p1.ix.g.len; omega) (by (intro n hn; have:=(p1.ix.g.sz n hn).1; omega))) Z fun bE bF w Z=>.r [17]<|GA.Do Z fun w Z=>RG.Nl 0 ([(⟨1,d.next,(⟨(Ai s.mem).ids,(Ai s.mem).blocks⟩:Prt),([]:List Int),([]:List (List Tag))⟩:Stp),(⟨2,0,(⟨([]:List Int),([]:List (List Row))⟩:Prt),(([]++d.list)++[d.next]),s.idx.names⟩:Stp)]:List Stp) [[6,7,5,4],[1,0,3,2]] ((((((Z.nl Int).nl (List Tag)).sl 1).sl 0).nl Int).nl (List Row)) fun bG w Z=>.r 1<|.d<|T.Rt func55 results55 ⟨Z.rM 0 ([(⟨1,d.next,(⟨(Ai s.mem).ids,(Ai s.mem).blocks⟩:Prt),([]:List Int),([]:List (List Tag))⟩:Stp),(⟨2,0,(⟨([]:List Int),([]:List (List Row))⟩:Prt),(([]++d.list)++[d.next]),s.idx.names⟩:Stp)]:List Stp) (by exact Nx ‹_› ‹_› ‹_› ‹_› p0),Z.xt⟩
   exact GE.Nb 1 Z fun bH w Z=>.go 5<|GE.N0 Int 0 Z fun bI w Z=>.go 8<|GE.An (hs:=by (simp only [List.nil_append,List.length_nil,List.length_append,List.length_cons] <;> exact (by have:=p0.nl; omega))) (hf:=.inr Aw) 0 7 ([]:List Int) d.list [2,3] Z fun bJ bK w Z=>.go 12<|GE.Ap (hs:=by (simp only [List.nil_append,List.length_nil,List.length_append,List.length_cons] <;> exact (by have:=p0.nl; omega))) 0 1 ([]++d.list) d.next [] [1,2] Z fun bL bM w Z=>.go 16<|GE.CO 0 (fun w Z=>Ae s.idx.names (Z.a 5) (by have:=p1.ix.g.len; omega) (by (intro n hn; have:=(p1.ix.g.sz n hn).1; omega))) Z fun bN bO w Z=>.r [17]<|GA.Do Z fun w Z=>RG.Nl 0 ([(⟨1,d.next,(⟨(Ai s.mem).ids,(Ai s.mem).blocks⟩:Prt),([]:List Int),([]:List (List Tag))⟩:Stp),(⟨2,0,(⟨([]:List Int),([]:List (List Row))⟩:Prt),(([]++d.list)++[d.next]),s.idx.names⟩:Stp)]:List Stp) [[6,7,5,4],[1,0,3,2]] ((((((Z.nl Int).nl (List Tag)).sl 1).sl 0).nl Int).nl (List Row)) fun bP w Z=>.r 1<|.d<|T.Rt func55 results55 ⟨Z.rM 0 ([(⟨1,d.next,(⟨(Ai s.mem).ids,(Ai s.mem).blocks⟩:Prt),([]:List Int),([]:List (List Tag))⟩:Stp),(⟨2,0,(⟨([]:List Int),([]:List (List Row))⟩:Prt),(([]++d.list)++[d.next]),s.idx.names⟩:Stp)]:List Stp) (by exact Nx ‹_› ‹_› ‹_› ‹_› p0),Z.xt⟩
  ·refine GE.N0 Int 0 Z fun bQ w Z=>.tw 3 11 ?_ ?_
   ·refine GE.CS (fun w Z=>Br s (Z.a 3) (Z.a 2) (Z.a 1) (Z.a 0) (StoK.of (C6 p1 ‹_›) (DA ‹_›).sk).row (StoK.of (C6 p1 ‹_›) (DA ‹_›).sk).Jm.Iq (by have:=p1.nm2; omega)) Z fun bR bS bT bU w Z=>.r [4]<|.tw 8 11 ?_ ?_
    ·exact GE.An (hs:=by (simp only [List.nil_append,List.length_nil,List.length_append,List.length_cons] <;> exact (by have:=p0.nl; omega))) (hf:=.inr Aw) 0 7 ([]:List Int) d.list [1,2] Z fun bV bW w Z=>.go 11<|GE.Nb 1 Z fun bX w Z=>.go 12<|GE.Ap (hs:=by (simp only [List.nil_append,List.length_nil,List.length_append,List.length_cons] <;> exact (by have:=p0.nl; omega))) 0 0 ([]++d.list) d.next [] [1,2] Z fun bY bZ w Z=>.go 16<|GE.CO 0 (fun w Z=>Ae s.idx.names (Z.a 5) (by have:=p1.ix.g.len; omega) (by (intro n hn; have:=(p1.ix.g.sz n hn).1; omega))) Z fun b0 b6 w Z=>.r [17]<|GA.Do Z fun w Z=>RG.Nl 0 ([(⟨1,d.next,(⟨(Ai s.mem).ids,(Ai s.mem).blocks⟩:Prt),([]:List Int),([]:List (List Tag))⟩:Stp),(⟨2,0,(⟨([]:List Int),([]:List (List Row))⟩:Prt),(([]++d.list)++[d.next]),s.idx.names⟩:Stp)]:List Stp) [[6,7,5,4],[1,0,3,2]] ((((((Z.nl Int).nl (List Tag)).sl 1).sl 0).nl Int).nl (List Row)) fun b7 w Z=>.r 1<|.d<|T.Rt func55 results55 ⟨Z.rM 0 ([(⟨1,d.next,(⟨(Ai s.mem).ids,(Ai s.mem).blocks⟩:Prt),([]:List Int),([]:List (List Tag))⟩:Stp),(⟨2,0,(⟨([]:List Int),([]:List (List Row))⟩:Prt),(([]++d.list)++[d.next]),s.idx.names⟩:Stp)]:List Stp) (by exact Nx ‹_› ‹_› ‹_› ‹_› p0),Z.xt⟩
    exact GE.Nb 1 Z fun b8 w Z=>.go 8<|GE.An (hs:=by (simp only [List.nil_append,List.length_nil,List.length_append,List.length_cons] <;> exact (by have:=p0.nl; omega))) (hf:=.inr Aw) 1 7 ([]:List Int) d.list [2,3] Z fun b9 cd w Z=>.go 12<|GE.Ap (hs:=by (simp only [List.nil_append,List.length_nil,List.length_append,List.length_cons] <;> exact (by have:=p0.nl; omega))) 0 0 ([]++d.list) d.next [] [1,2] Z fun ce cg w Z=>.go 16<|GE.CO 0 (fun w Z=>Ae s.idx.names (Z.a 5) (by have:=p1.ix.g.len; omega) (by (intro n hn; have:=(p1.ix.g.sz n hn).1; omega))) Z fun ci cj w Z=>.r [17]<|GA.Do Z fun w Z=>RG.Nl 0 ([(⟨1,d.next,(⟨(Ai s.mem).ids,(Ai s.mem).blocks⟩:Prt),([]:List Int),([]:List (List Tag))⟩:Stp),(⟨2,0,(⟨([]:List Int),([]:List (List Row))⟩:Prt),(([]++d.list)++[d.next]),s.idx.names⟩:Stp)]:List Stp) [[6,7,5,4],[1,0,3,2]] ((((((Z.nl Int).nl (List Tag)).sl 1).sl 0).nl Int).nl (List Row)) fun ck w Z=>.r 1<|.d<|T.Rt func55 results55 ⟨Z.rM 0 ([(⟨1,d.next,(⟨(Ai s.mem).ids,(Ai s.mem).blocks⟩:Prt),([]:List Int),([]:List (List Tag))⟩:Stp),(⟨2,0,(⟨([]:List Int),([]:List (List Row))⟩:Prt),(([]++d.list)++[d.next]),s.idx.names⟩:Stp)]:List Stp) (by exact Nx ‹_› ‹_› ‹_› ‹_› p0),Z.xt⟩
   exact GE.Nb 1 Z fun cm w Z=>.go 3<|GE.CS (fun w Z=>Br s (Z.a 3) (Z.a 2) (Z.a 1) (Z.a 0) (StoK.of (C6 p1 ‹_›) (DA ‹_›).sk).row (StoK.of (C6 p1 ‹_›) (DA ‹_›).sk).Jm.Iq (by have:=p1.nm2; omega)) Z fun co cp cq cr w Z=>.r [4]<|.go 8<|GE.An (hs:=by (simp only [List.nil_append,List.length_nil,List.length_append,List.length_cons] <;> exact (by have:=p0.nl; omega))) (hf:=.inr Aw) 1 7 ([]:List Int) d.list [2,3] Z fun ao aq w Z=>.go 12<|GE.Ap (hs:=by (simp only [List.nil_append,List.length_nil,List.length_append,List.length_cons] <;> exact (by have:=p0.nl; omega))) 0 0 ([]++d.list) d.next [] [1,2] Z fun ar au w Z=>.go 16<|GE.CO 0 (fun w Z=>Ae s.idx.names (Z.a 5) (by have:=p1.ix.g.len; omega) (by (intro n hn; have:=(p1.ix.g.sz n hn).1; omega))) Z fun ax ay w Z=>.r [17]<|GA.Do Z fun w Z=>RG.Nl 0 ([(⟨1,d.next,(⟨(Ai s.mem).ids,(Ai s.mem).blocks⟩:Prt),([]:List Int),([]:List (List Tag))⟩:Stp),(⟨2,0,(⟨([]:List Int),([]:List (List Row))⟩:Prt),(([]++d.list)++[d.next]),s.idx.names⟩:Stp)]:List Stp) [[6,7,5,4],[1,0,3,2]] ((((((Z.nl Int).nl (List Tag)).sl 1).sl 0).nl Int).nl (List Row)) fun az w Z=>.r 1<|.d<|T.Rt func55 results55 ⟨Z.rM 0 ([(⟨1,d.next,(⟨(Ai s.mem).ids,(Ai s.mem).blocks⟩:Prt),([]:List Int),([]:List (List Tag))⟩:Stp),(⟨2,0,(⟨([]:List Int),([]:List (List Row))⟩:Prt),(([]++d.list)++[d.next]),s.idx.names⟩:Stp)]:List Stp) (by exact Nx ‹_› ‹_› ‹_› ‹_› p0),Z.xt⟩
  refine GE.Nb 1 Z fun aA w Z=>.tw 3 5 ?_ ?_
  ·exact GE.CS (fun w Z=>Br s (Z.a 3) (Z.a 2) (Z.a 1) (Z.a 0) (StoK.of (C6 p1 ‹_›) (DA ‹_›).sk).row (StoK.of (C6 p1 ‹_›) (DA ‹_›).sk).Jm.Iq (by have:=p1.nm2; omega)) Z fun aB aC aD aE w Z=>.r [4]<|.go 5<|GE.N0 Int 0 Z fun aF w Z=>.go 8<|GE.An (hs:=by (simp only [List.nil_append,List.length_nil,List.length_append,List.length_cons] <;> exact (by have:=p0.nl; omega))) (hf:=.inr Aw) 0 7 ([]:List Int) d.list [2,3] Z fun aG aH w Z=>.go 12<|GE.Ap (hs:=by (simp only [List.nil_append,List.length_nil,List.length_append,List.length_cons] <;> exact (by have:=p0.nl; omega))) 0 1 ([]++d.list) d.next [] [1,2] Z fun aI aJ w Z=>.go 16<|GE.CO 0 (fun w Z=>Ae s.idx.names (Z.a 5) (by have:=p1.ix.g.len; omega) (by (intro n hn; have:=(p1.ix.g.sz n hn).1; omega))) Z fun aK aL w Z=>.r [17]<|GA.Do Z fun w Z=>RG.Nl 0 ([(⟨1,d.next,(⟨(Ai s.mem).ids,(Ai s.mem).blocks⟩:Prt),([]:List Int),([]:List (List Tag))⟩:Stp),(⟨2,0,(⟨([]:List Int),([]:List (List Row))⟩:Prt),(([]++d.list)++[d.next]),s.idx.names⟩:Stp)]:List Stp) [[6,7,5,4],[1,0,3,2]] ((((((Z.nl Int).nl (List Tag)).sl 1).sl 0).nl Int).nl (List Row)) fun aM w Z=>.r 1<|.d<|T.Rt func55 results55 ⟨Z.rM 0 ([(⟨1,d.next,(⟨(Ai s.mem).ids,(Ai s.mem).blocks⟩:Prt),([]:List Int),([]:List (List Tag))⟩:Stp),(⟨2,0,(⟨([]:List Int),([]:List (List Row))⟩:Prt),(([]++d.list)++[d.next]),s.idx.names⟩:Stp)]:List Stp) (by exact Nx ‹_› ‹_› ‹_› ‹_› p0),Z.xt⟩
  exact GE.N0 Int 0 Z fun aN w Z=>.go 3<|GE.CS (fun w Z=>Br s (Z.a 3) (Z.a 2) (Z.a 1) (Z.a 0) (StoK.of (C6 p1 ‹_›) (DA ‹_›).sk).row (StoK.of (C6 p1 ‹_›) (DA ‹_›).sk).Jm.Iq (by have:=p1.nm2; omega)) Z fun aO aP aQ aR w Z=>.r [4]<|.go 8<|GE.An (hs:=by (simp only [List.nil_append,List.length_nil,List.length_append,List.length_cons] <;> exact (by have:=p0.nl; omega))) (hf:=.inr Aw) 0 7 ([]:List Int) d.list [2,3] Z fun aS aT w Z=>.go 12<|GE.Ap (hs:=by (simp only [List.nil_append,List.length_nil,List.length_append,List.length_cons] <;> exact (by have:=p0.nl; omega))) 0 1 ([]++d.list) d.next [] [1,2] Z fun aU aV w Z=>.go 16<|GE.CO 0 (fun w Z=>Ae s.idx.names (Z.a 5) (by have:=p1.ix.g.len; omega) (by (intro n hn; have:=(p1.ix.g.sz n hn).1; omega))) Z fun aW aX w Z=>.r [17]<|GA.Do Z fun w Z=>RG.Nl 0 ([(⟨1,d.next,(⟨(Ai s.mem).ids,(Ai s.mem).blocks⟩:Prt),([]:List Int),([]:List (List Tag))⟩:Stp),(⟨2,0,(⟨([]:List Int),([]:List (List Row))⟩:Prt),(([]++d.list)++[d.next]),s.idx.names⟩:Stp)]:List Stp) [[6,7,5,4],[1,0,3,2]] ((((((Z.nl Int).nl (List Tag)).sl 1).sl 0).nl Int).nl (List Row)) fun aY w Z=>.r 1<|.d<|T.Rt func55 results55 ⟨Z.rM 0 ([(⟨1,d.next,(⟨(Ai s.mem).ids,(Ai s.mem).blocks⟩:Prt),([]:List Int),([]:List (List Tag))⟩:Stp),(⟨2,0,(⟨([]:List Int),([]:List (List Row))⟩:Prt),(([]++d.list)++[d.next]),s.idx.names⟩:Stp)]:List Stp) (by exact Nx ‹_› ‹_› ‹_› ‹_› p0),Z.xt⟩
 exact .r 1<|.d<|.ct<|.s<|.g<|RG.N0 Stp 0 Z fun aZ w Z=>.r 1<|.d<|T.Rt func55 results55 ⟨Z.rM 0 ([]:List Stp) (by exact VW (.inr (.inr ‹_›))),Z.xt⟩
end Go.Proofs.YtggnnidleedpaaaGreat
namespace Go.Proofs.YtggnnidleedpaaaGreat
theorem WK {α:Type}[BEq α] [LawfulBEq α] {a b:List α}{k:Nat}{x y:α}(h:a.drop k=b.drop k↔a=b) (ha:a.drop k=x::a.drop (k+1)) (hb:b.drop k=y::b.drop (k+1)) (e:(x==y)=true):a.drop (k+1)=b.drop (k+1)↔a=b:=by
 rw [← h,ha,hb,eq_of_beq e]
 simp
theorem WL {α:Type}[BEq α] [LawfulBEq α] {a b:List α}{k:Nat}{x y:α}(h:a.drop k=b.drop k↔a=b) (ha:a.drop k=x::a.drop (k+1)) (hb:b.drop k=y::b.drop (k+1)) (e:(x==y)=false):a≠b:=fun e2=>by
 have:=h.2 e2
 rw [ha,hb,List.cons.injEq] at this
 exact beq_eq_false_iff_ne.1 e this.1
end Go.Proofs.YtggnnidleedpaaaGreat
namespace Go.Proofs.YtggnnidleedpaaaGreat
section
variable {α:Type} [Rep α] {w:World} {G F:Nat→Prop} {M ML M2:List Nat} {o:Option Addr} {n c r s b x:Nat} {t:TypeId} {xs:List α}
theorem RepS.IZ (h:RepS w (nin F M) o n c xs):RepS w (nin (fo F s) M) o n c xs:=h.Bl fun _ _ hF=>⟨.inl hF.1,hF.2⟩
theorem RepS.toM (h:RepS w (nin G M) o n c xs) (hs:∀ b∈ML,b∈M):RepS w (nin (nin G M) ML) o n c xs:=h.Bl fun k _ hk=>⟨hk,fun e=>hk.2 (hs k e)⟩
theorem Own.toM (h:Own w r t (nin G M) n c xs) (hs:∀ b∈ML,b∈M):Own w r t (nin (nin G M) ML) n c xs:=h.Bl fun k _ hk=>⟨hk,fun e=>hk.2 (hs k e)⟩
theorem Cov.mkI {L:List Nat}(h:b∈L):Cov (ins L) w b:=⟨.inl h⟩
theorem JG (h:Cov (ins [b,r]) w x) (hn:Nb x b):OrB x r w.heap.size:=by
 rcases h.or with h | h
 ·have h2:x∈[b,r]:=h
  rcases List.mem_cons.1 h2 with rfl | h2
  ·exact absurd rfl hn.ne
  ·simp at h2
   exact .inl h2
 ·exact .inr h
theorem SN {k:Nat}(h:nin (fo (nin G M) s) ML k) (hM:∀ b∈M,b< s) (hG:∀ b,s≤b→G b) (h2:∀ b∈M2,b∈ML∨b∈M):nin G M2 k:=by
 refine ⟨?_,fun hm=>?_⟩
 ·rcases h.1 with h1 | h1
  ·exact h1.1
  ·exact hG _ h1
 ·rcases h2 k hm with h3 | h3
  ·exact h.2 h3
  ·rcases h.1 with h1 | h1
   ·exact h1.2 h3
   ·have:=hM k h3; omega
theorem RepS.bxM (h:RepS w (nin (fo (nin G M) s) ML) o n c xs) (hM:∀ b∈M,b< s) (hG:∀ b,s≤b→G b) (h2:∀ b∈M2,b∈ML∨b∈M):RepS w (nin G M2) o n c xs:=h.Bl fun _ _ hk=>SN hk hM hG h2
theorem Own.bxM (h:Own w r t (nin (fo (nin G M) s) ML) n c xs) (hM:∀ b∈M,b< s) (hG:∀ b,s≤b→G b) (h2:∀ b∈M2,b∈ML∨b∈M):Own w r t (nin G M2) n c xs:=h.Bl fun _ _ hk=>SN hk hM hG h2
end
theorem Own.Wo {w:World}{r:Nat}{t:TypeId}{F:Nat→Prop}{n c i:Nat}{xs:List Fil}{cs:List Value}(h:Own w r t F n c xs) (hB:Box w r t cs):∀ v,i+(n - i)≤n→v∈(cs.drop (i * 3)).take ((n - i) * 3)→Go.Proofs.YtggnnidleedpaaaGreat.DS v=true:=by
 intro v hin hv
 obtain ⟨k,hk⟩:=List.mem_iff_getElem?.1 hv
 rw [List.getElem?_take] at hk
 split at hk
 ·rename_i hlt
  rw [List.getElem?_drop] at hk
  have hn:=h.len
  have hj:i+k / 3< xs.length:=by omega
  obtain ⟨c1,g1,g2⟩:=h.elem (i+k / 3) xs[i+k / 3] (AU hj)
  have hl:c1.length=3:=Rep.len g1
  have hk2:k % 3< c1.length:=by omega
  have h3:=g2 (k % 3) c1[k % 3] (AU hk2)
  have hz:Rep.sz Fil=3:=rfl
  unfold Box at hB
  rw [add_lit,hz] at h3
  simp only [World.cell?,hB] at h3
  have e:(i+k / 3) * 3+k % 3=i * 3+k:=by omega
  rw [e] at h3
  have h4:cs[i * 3+k]? = some c1[k % 3]:=by simpa using h3
  rw [hk] at h4
  cases h4
  exact Rep.flat g1 _ (List.getElem_mem hk2)
 ·cases hk
theorem SO {P:Program}{T ty t:TypeId}{sz:Nat}{w:World}{r o c m:Nat}{cs:List Value}(hT:Tw P T t sz=true) (hB:Box w r t cs) (hm:0< m) (hfit:o+m * sz≤cs.length) :
 ∃ vs w',(Builtin.clear_ #[T] ty #[.slice (some ⟨r,o,none⟩) m c]).run P w=.ok (.tuple #[]) w'∧vs.length=m * sz∧Box w' r t (BA cs o vs)∧Chg (one r) w w':=by
 unfold Tw at hT
 simp only [AW] at hT
 obtain ⟨h1,h2⟩:=hT
 split at h1
 ·rename_i e he
  have:=Nat.eq_of_beq_eq_true h1
  subst this
  split at h2
  ·rename_i inf hinf
   split at h2
   ·rename_i z hz
    simp only [AW,List.all_eq_true] at h2
    have hsz:=Nat.eq_of_beq_eq_true h2.1
    have hl:(Builtin.zeroCells z.cells m).toList.length=m * sz:=by rw [Array.length_toList,size_zeroCells,hsz]
    have ho:∀ v∈(Builtin.zeroCells z.cells m).toList,DS v=true:=fun v hv=>by
     unfold Builtin.zeroCells at hv
     simp only [Array.toList_map,List.mem_map,Array.toList_range,List.mem_range] at hv
     obtain ⟨k,hk,rfl⟩:=hv
     have hk2:k % z.cells.size< z.cells.size:=Nat.mod_lt _ (Nat.pos_of_ne_zero (fun e=>by rw [e,Nat.mul_zero] at hk; omega))
     refine h2.2 _ ?_
     rw [getElem!_pos z.cells _ hk2]
     exact Array.getElem_mem_toList hk2
    obtain ⟨w',g1,g2,g3,_⟩:=hB.MA (P:=P) (Builtin.zeroCells z.cells m).toList (o:=o) (i:=0) AB ho
    refine ⟨_,w',?_,hl,g2,g3⟩
    have hv:(zeroValue e).run P w=.ok z w:=by simp [zeroValue,typeInfo,hinf,hz,go_sem]
    unfold Builtin.clear_
    simp only [List.getElem?_toArray,List.getElem?_cons_zero]
    rw [AX (run_underlying he w)]
    obtain ⟨m',rfl⟩:∃ k,m=k+1:=⟨m - 1,by omega⟩
    simp only []
    rw [AX hv,AX g1]
    rfl
   ·cases h2
  ·cases h2
 ·cases h1
theorem Own.VX {α:Type}[Rep α] {w w':World}{r:Nat}{t:TypeId}{F:Nat→Prop}{n c i:Nat}{xs:List α}{cs cs':List Value}(h:Own w r t F n c xs) (hx:Chg (one r) w w') (hB:Box w r t cs) (hB':Box w' r t cs') (hl:cs'.length=c * Rep.sz α) (hi:i≤n)
 (hp:∀ p,p< i * Rep.sz α→cs'[p]? = cs[p]?):Own w' r t F i c (xs.take i):=by
 have hn:=h.len
 have hle:=h.le
 have hcap:=h.cap
 unfold Box at hB hB'
 refine ⟨by rw [List.length_take]; omega,by omega,hcap,⟨cs'.toArray,hB',by simpa using hl⟩,fun k x hk=>?_⟩
 have hfr:∀ b,b< w.heap.size→F b∧b≠r→(F b∧b≠r)∧w'.heap[b]? = w.heap[b]? := fun b hb hF=>⟨hF,hx.block b hb (fun e=>hF.2 e)⟩
 rw [List.getElem?_take] at hk
 split at hk
 ·rename_i hki
  obtain ⟨c1,g1,g2⟩:=h.elem k x hk
  refine ⟨c1,Rep.frame g1 hfr,fun u v hv=>?_⟩
  have h3:=g2 u v hv
  have hu:u< Rep.sz α:=by have:=(List.getElem?_eq_some_iff.1 hv).1; rw [Rep.len g1] at this; exact this
  have hm:k * Rep.sz α+Rep.sz α≤i * Rep.sz α:=by rw [← Nat.succ_mul]; exact Nat.mul_le_mul_right _ hki
  rw [add_lit] at h3 ⊢
  simp only [World.cell?,hB] at h3
  simp only [World.cell?,hB']
  have:=hp (k * Rep.sz α+u) AB
  simpa [this] using h3
 ·cases hk
theorem Qb {cs v:List Value}{i p:Nat}(hp:p< i) (hi:i≤cs.length):(BA cs i v)[p]? = cs[p]? := by
 unfold BA
 rw [List.append_assoc,List.getElem?_append_left (by rw [List.length_take]; omega),List.getElem?_take,if_pos hp]
end Go.Proofs.YtggnnidleedpaaaGreat
namespace Go.Proofs.YtggnnidleedpaaaGreat
def WM:Dsk:=⟨[],[],[],0⟩
def Ak (d:Dsk) (st:List Stp) (c:Int):Dsk:=if Ax d=true∧0≤c∧Ax (toD d st c)=true then toD d st c else WM
def CF (d:Dsk):Dsk:=if Ax d then BK d else WM
def Ag (d:Dsk) (a:Int):List Stp:=if Ax d then Aj d a else []
theorem EB {d:Dsk}{a:Int}(h:Ax d=true):Ag d a=Aj d a:=by unfold Ag; rw [if_pos h]
theorem Ny {d:Dsk}{a:Int}(h:Ax d=false):Ag d a=[]:=by unfold Ag; rw [if_neg (by simp [h])]
structure StW (d:Dsk) (st:List Stp):Prop where
 len:st.length≤4
 sz:∀ x∈st,JQ x
 pt:∀ x∈st,Cv x.part
 ok:∀ k:Nat,DD ((st.take k).foldl doD d)
theorem DD.UZ {d:Dsk}(h:DD d){x:Stp}(hk:x.kind=1) (hf:d.files.length< 20) (hn:0≤x.num∧x.num≤998) (hp:PrtI x.part):DD (doD d x):=by
 rw [E2 hk]
 refine ⟨h.g,h.nl,by simp; omega,fun f hf=>?_,by show 0≤x.num+1∧x.num+1≤999; omega⟩
 rcases List.mem_append.1 hf with hf | hf
 ·exact h.file f hf
 ·simp at hf; subst hf; exact hp
theorem DD.WN {d:Dsk}(h:DD d){x:Stp}(hk:x.kind=2) (hl:x.list.length≤7) (hn:NmG x.names):DD (doD d x):=by
 rw [Gg hk]
 exact ⟨hn,hl,h.nf,h.file,h.next⟩
theorem Gw {d:Dsk}{n:Int}:∀ f∈Ds d n,f∈d.files:=fun f hf=>by
 unfold Ds at hf
 split at hf
 ·rcases List.mem_append.1 hf with hf | hf
  ·exact List.mem_of_mem_take hf
  ·exact List.mem_of_mem_drop hf
 ·exact hf
theorem Kw {d:Dsk}{n:Int}:(Ds d n).length≤d.files.length:=by
 unfold Ds
 split
 ·rw [List.length_append,List.length_take,List.length_drop]; omega
 ·exact Nat.le_refl _
theorem DD.WO {d:Dsk}(h:DD d){x:Stp}(hk:x.kind=3):DD (doD d x):=by
 rw [FC hk]
 exact ⟨h.g,h.nl,Nat.le_trans Kw h.nf,fun f hf=>h.file f (Gw f hf),h.next⟩
theorem SP {d:Dsk}{x:Stp}{xs:List Stp}(h0:DD d) (h:∀ k:Nat,DD ((xs.take k).foldl doD (doD d x))):∀ k:Nat,DD (((x::xs).take k).foldl doD d):=by
 intro k
 cases k with
 | zero=>exact h0
 | succ k=>exact h k
theorem SQ {d:Dsk}(h0:DD d):∀ k:Nat,DD ((([]:List Stp).take k).foldl doD d):=by intro k; simpa using h0
theorem StW.nil {d:Dsk}(h:DD d):StW d []:=⟨by simp,by simp,by simp,SQ h⟩
theorem Ia {x:Stp}(hl:x.list.length≤7) (hn:x.names.length≤7) (h5:∀ n∈x.names,n.length≤1000) (hx:-9000000≤x.num∧x.num≤9000000):JQ x:=⟨by omega,by omega,h5,hx.1,hx.2⟩
theorem SR {ns:List (List Tag)}(h:NmG ns):∀ n∈ns,n.length≤1000:=fun n hn=>(h.sz n hn).1
theorem Ly:Cv ⟨[],[]⟩:=⟨rfl,by simp,by simp⟩
theorem Ib {d:Dsk}(h:DD d){l:List Int}{ns:List (List Tag)}{xs:List Stp}(hl:l.length≤7) (hn:NmG ns) (hx:∀ x∈xs,x.kind=3∧JQ x∧x.part=⟨[],[]⟩) (h3:xs.length≤2):StW d (⟨2,0,⟨[],[]⟩,l,ns⟩ :: xs):=by
 refine ⟨by simp; omega,fun x hm=>?_,fun x hm=>?_,SP h ?_⟩
 ·rcases List.mem_cons.1 hm with rfl | hm
  ·exact Ia hl hn.len (SR hn) AD
  ·exact (hx x hm).2.1
 ·rcases List.mem_cons.1 hm with rfl | hm
  ·exact Ly
  ·rw [(hx x hm).2.2]; exact Ly
 ·have key:∀ (xs:List Stp) (d:Dsk),DD d→(∀ x∈xs,x.kind=3)→∀ k:Nat,DD ((xs.take k).foldl doD d):=by
   intro xs
   induction xs with
   | nil=>intro d h _; exact SQ h
   | cons x xs ih=>intro d h hk; exact SP h (ih _ (h.WO (hk x AD)) (fun y hy=>hk y (by simp [hy])))
  exact key xs _ (h.WN rfl hl hn) (fun x hm=>(hx x hm).1)
theorem StW.Ua {d:Dsk}(h:DD d){n:Int}{p:Prt}{xs:List Stp}(hf:d.files.length< 20) (hn:0≤n∧n≤998) (hp:PrtI p) (h3:xs.length≤3) (hx:StW (doD d ⟨1,n,p,[],[]⟩) xs):StW d (⟨1,n,p,[],[]⟩ :: xs):=by
 refine ⟨by simp; omega,fun x hm=>?_,fun x hm=>?_,SP h hx.ok⟩
 ·rcases List.mem_cons.1 hm with rfl | hm
  ·exact Ia AD AD AD (by show -9000000≤n∧n≤9000000; omega)
  ·exact hx.sz x hm
 ·rcases List.mem_cons.1 hm with rfl | hm
  ·exact hp.sz
  ·exact hx.pt x hm
theorem Ub {s:Sto}(h:SD s):NmG s.idx.names:=NmG.of h.nm h.nd
theorem Lz {s:Sto}(h:StoK s):PrtI (Ai s.mem):=PrtI.mem h.row
theorem JH {d:Dsk}{s:Sto}(h:DD d) (hs:SD s):StW d (Af d s)∧StW d (((Af d s).take (Af d s).length).drop 1):=by
 rw [List.take_length]
 unfold Af
 split
 ·rename_i hf
  have q:=DA hf
  have hk:=C2 q.dk
  by_cases hc:s.mem.length=0∨d.list.length≥6∨d.next≥999∨d.files.length≥20
  ·have e:As d s=[]:=by unfold As; rw [if_pos hc]
   rw [e]; exact ⟨StW.nil h,StW.nil h⟩
  ·have e:=DJ (d:=d) (s:=s) AB AB AB AB
   rw [e]
   have hn:=h.next
   have h1:=Ib (l:=d.list++[d.next]) (xs:=[]) h (by simp; omega) (Ub hs) AD AD
   have h2:DD (doD d ⟨1,d.next,Ai s.mem,[],[]⟩):=h.UZ rfl AB (by show 0≤d.next∧d.next≤998; omega) (Lz (StoK.of hs q.sk))
   exact ⟨StW.Ua h AB AB (Lz (StoK.of hs q.sk)) AD (Ib h2 (by simp; omega) (Ub hs) AD AD),h1⟩
 ·exact ⟨StW.nil h,StW.nil h⟩
theorem JI {d:Dsk}(h:DD d) (a:Int):StW d (Ag d a)∧StW d (((Ag d a).take (Ag d a).length).drop 1):=by
 rw [List.take_length]
 unfold Ag
 split
 ·rename_i hk0
  have hk:=C2 hk0
  have hdi:=h.di hk0
  unfold Aj
  split
  ·exact ⟨StW.nil h,StW.nil h⟩
  ·rename_i h1
   simp only [Bool.or_eq_true,not_or,Bool.not_eq_true,Bool.not_eq_false',decide_eq_true_eq] at h1
   obtain ⟨⟨h1,h3⟩,h4⟩:=h1
   have h0:=By (by simpa using h1)
   have hl:a.toNat+1< d.list.length:=by omega
   have ha:d.list.getD a.toNat 0∈d.list:=by rw [List.getD_eq_getElem?_getD,AU AB]; exact List.getElem_mem _
   have hb:d.list.getD (a.toNat+1) 0∈d.list:=by rw [List.getD_eq_getElem?_getD,AU hl]; exact List.getElem_mem _
   have na:=hdi.num _ ha
   have nb:=hdi.num _ hb
   have hn:=h.next
   generalize d.list.getD a.toNat 0=x at *
   generalize d.list.getD (a.toNat+1) 0=y at *
   have hp:PrtI (BC (Av d x) (Av d y)):=(h.part x).merge (h.part y)
   have hlen:(d.list.take a.toNat++[d.next]++d.list.drop (a.toNat+2)).length≤7:=by
    simp only [List.length_append,List.length_take,List.length_drop,List.length_cons,List.length_nil]; omega
   have hg:∀ z∈[(⟨3,x,⟨[],[]⟩,[],[]⟩:Stp),⟨3,y,⟨[],[]⟩,[],[]⟩],z.kind=3∧JQ z∧z.part=⟨[],[]⟩:=fun z hz=>by
    simp only [List.mem_cons,List.not_mem_nil,or_false] at hz
    rcases hz with rfl | rfl
    ·exact ⟨rfl,Ia AD AD AD (by show -9000000≤x∧x≤9000000; omega),rfl⟩
    ·exact ⟨rfl,Ia AD AD AD (by show -9000000≤y∧y≤9000000; omega),rfl⟩
   have h2:DD (doD d ⟨1,d.next,BC (Av d x) (Av d y),[],[]⟩):=h.UZ rfl AB (by show 0≤d.next∧d.next≤998; omega) hp
   exact ⟨StW.Ua h AB AB hp AD (Ib h2 hlen h.g hg AD),Ib h hlen h.g hg AD⟩
 ·exact ⟨StW.nil h,StW.nil h⟩
theorem T5 {l:List Stp}{i:Nat}{d:Dsk}{q:Stp}{Y:Dsk}(h:(l.drop i).foldl doD d=Y) (hd:l.drop i=q::l.drop (i+1)):(l.drop (i+1)).foldl doD (doD d q)=Y:=by
 rw [hd] at h
 exact h
theorem Ov {l:List Stp}{i:Nat}{d:Dsk}{Y:Dsk}(h:(l.drop i).foldl doD d=Y) (hi:l.length≤i):d=Y:=by
 rw [Aa hi] at h
 exact h
theorem VY {d:Dsk}{st:List Stp}{c:Int}(hc:¬ c< 0):((st.take (if (st.length:Int)< c then (st.length:Int) else c).toNat).drop 0).foldl doD d=toD d st c:=by
 unfold toD
 rw [List.drop_zero]
 split
 ·rw [show ((st.length:Int)).toNat=st.length by omega,List.take_length,List.take_of_length_le AB]
 ·rfl
theorem JJ {l:List Stp}{i:Nat}{x d:Dsk}{st:List Stp}{c:Int}(h:(l.drop i).foldl doD x=toD d st c) (hi:l.length≤i) (hw:StW d st):DD x:=by
 rw [Ov h hi]
 exact hw.ok c.toNat
theorem SS {d:Dsk}(x:Stp):(doD d x).files.length≤d.files.length+1:=by
 unfold doD
 split
 ·simp
 ·split
  ·simp
  ·split
   ·have:=Kw (d:=d) (n:=x.num); simp only; omega
   ·omega
theorem WQ {st:List Stp}{c:Int}{k:Nat}{x:Stp}(h:((st.take (if (st.length:Int)< c then (st.length:Int) else c).toNat).drop 0)[k]? = some x):k< st.length:=by
 have:=(List.getElem?_eq_some_iff.1 h).1
 rw [List.length_drop,List.length_take] at this
 omega
theorem Qc {d:Dsk}(h:DD d):d.files.length≤1000:=by have:=h.nf; omega
theorem Qd {d:Dsk}(h:DD d):∀ f∈d.files,Cv f.part:=fun f hf=>(h.file f hf).sz
theorem Qe {d:Dsk}(h:DD d):d.list.length≤1000:=by have:=h.nl; omega
theorem Qf {d:Dsk}(h:DD d):d.names.length≤1000:=by have:=h.g.len; omega
theorem Qg {d:Dsk}(h:DD d):∀ n∈d.names,n.length≤1000:=SR h.g
theorem SU {d:Dsk}{st:List Stp}{c:Int}(h:Ax d=false∨c< 0∨Ax (toD d st c)=false):(⟨[],[],[],0⟩:Dsk)=Ak d st c:=by
 unfold Ak
 rw [if_neg]
 ·rfl
 ·rintro ⟨h1,h2,h3⟩
  rcases h with h | h | h
  ·rw [h] at h1; cases h1
  ·omega
  ·rw [h] at h3; cases h3
theorem Uc {d:Dsk}{st:List Stp}{c:Int}(h:Ax d=true) (h1:¬ c< 0) (h2:Ax (toD d st c)=true):Ak d st c=toD d st c:=by
 unfold Ak
 rw [if_pos ⟨h,by omega,h2⟩]
theorem T6 {l:List Stp}{i:Nat}{x d:Dsk}{st:List Stp}{c:Int}(h:(l.drop i).foldl doD x=toD d st c) (hi:l.length≤i) (h2:Ax x=false):(⟨[],[],[],0⟩:Dsk)=Ak d st c:=by
 rw [Ov h hi] at h2
 exact SU (.inr (.inr h2))
theorem T7 {l:List Stp}{i:Nat}{x d:Dsk}{st:List Stp}{c:Int}(h:(l.drop i).foldl doD x=toD d st c) (hi:l.length≤i) (h0:Ax d=true) (h1:¬ c< 0) (h2:Ax x=true):x=Ak d st c:=by
 rw [Ov h hi] at h2 ⊢
 exact (Uc h0 h1 h2).symm
theorem VZ {d:Dsk}{st:List Stp}(c:Int) (h:StW d st):DD (toD d st c):=h.ok c.toNat
theorem DD.tidy {d:Dsk}(h:DD d):DD (BK d):=⟨h.g,h.nl,Nat.le_trans (List.length_filter_le _ _) h.nf,fun f hf=>h.file f (List.mem_filter.1 hf).1,h.next⟩
theorem T8 {d:Dsk}(h:Ax d=false):(⟨[],[],[],0⟩:Dsk)=CF d:=by unfold CF; rw [if_neg (by simp [h])]; rfl
theorem KE {d:Dsk}(h:Ax d=true):CF d=BK d:=by unfold CF; rw [if_pos h]
theorem Cr {l:List Fil}{i:Nat}{k:List Fil}{q:Fil}(h:k++l.drop i=l) (hd:l.drop i=q::l.drop (i+1)):(k++[q])++l.drop (i+1)=l:=by
 rw [hd] at h
 simpa using h
theorem CG {α:Type}{l:List α}{i:Nat}{k:List α}(h:k++l.drop i=l) (hi:l.length≤i):k=l:=by
 rw [Aa hi] at h
 simpa using h
theorem Va {a b:List Fil}{k:Nat}{x y:Fil}(h:a.drop k=b.drop k↔a=b) (ha:a.drop k=x::a.drop (k+1)) (hb:b.drop k=y::b.drop (k+1)) (h1:x.num=y.num) (h2:(x.part==y.part)=true):a.drop (k+1)=b.drop (k+1)↔a=b:=by
 have e:x=y:=by
  have:=eq_of_beq h2
  cases x; cases y
  simp_all
 rw [← h,ha,hb,e]
 simp
theorem SV {a b:List Fil}{k:Nat}{x y:Fil}(h:a.drop k=b.drop k↔a=b) (ha:a.drop k=x::a.drop (k+1)) (hb:b.drop k=y::b.drop (k+1)) (h1:x.num≠y.num∨(x.part==y.part)=false):a≠b:=fun e=>by
 have:=h.2 e
 rw [ha,hb,List.cons.injEq] at this
 rcases h1 with h1 | h1
 ·exact h1 (by rw [this.1])
 ·rw [this.1] at h1; simp at h1
theorem Nz {α:Type}{a b:List α}{k:Nat}(h:a.drop k=b.drop k↔a=b) (ha:a.length≤k) (hl:(a.length:Int)=b.length):a=b:=h.1 (by rw [Aa ha,Aa AB])
theorem Hn {a b:Dsk}(h:a.files≠b.files∨a.list≠b.list∨a.names≠b.names∨a.next≠b.next):false=(a==b):=(beq_eq_false_iff_ne.2 (fun e=>by subst e; simp at h)).symm
theorem Vb {a b:Dsk}(h1:a.files=b.files) (h2:(a.list==b.list)=true) (h3:a.names=b.names) (h4:a.next=b.next):true=(a==b):=by
 symm
 rw [beq_iff_eq]
 have:=eq_of_beq h2
 cases a; cases b
 simp_all
theorem SW {α:Type}{a b:List α}(h:(a.length:Int)≠b.length):a≠b:=fun e=>h (by rw [e])
theorem Vc {α:Type}[BEq α] [LawfulBEq α] {a b:α}(h:(a==b)=false):a≠b:=beq_eq_false_iff_ne.1 h
theorem Ud {d:Dsk}{a:Int}(h:Ax d=true) (h1:inR a 0 ((d.list.length:Int) - 2)=false∨Ej d=true):[]=Ag d a:=by
 rw [EB h,H5]
 rcases h1 with h1 | h1
 ·exact .inl h1
 ·rcases Pj h1 with h1 | h1
  ·exact .inr (.inl AB)
  ·exact .inr (.inr AB)
theorem L0 {d:Dsk}{n:Int}(hn:n∈d.list):Av d n∈(Al d).parts:=by
 show _∈d.list.map (Av d)
 exact List.mem_map.2 ⟨n,hn,rfl⟩
theorem SX {d:Dsk}{at_ a b:Int}{f g:Fil}(hd:DD d) (h:Ax d=true) (h1:inR at_ 0 ((d.list.length:Int) - 2)=true) (h2:Ej d=false) (ha:d.list[at_.toNat]? = some a) (hb:d.list[(at_+1).toNat]? = some b) (hf:d.files[(At d a).toNat]? = some f) (hg:d.files[(At d b).toNat]? = some g) :
 [⟨1,d.next,(CB f.part g.part).1,[],[]⟩,⟨2,0,⟨[],[]⟩,(([]++(d.list.take at_.toNat).drop 0)++[d.next])++(d.list.take d.list.length).drop (at_+2).toNat,d.names⟩,⟨3,a,⟨[],[]⟩,[],[]⟩,⟨3,b,⟨[],[]⟩,[],[]⟩]=Ag d at_:=by
 have hx:=Ph h2
 have hk:=C2 h
 have:=hd.nf
 have hs:=hd.sd h
 have hso:=(Fl h).2.1
 have e:=Ku hs hso (L0 (AV ha)) (L0 (AV hb))
 rw [Er hf,Er hg] at e
 rw [e,EB h,EL h1 AB AB ha hb hf hg]
end Go.Proofs.YtggnnidleedpaaaGreat
namespace Go.Proofs.YtggnnidleedpaaaGreat
def Dc (l:List Int):Nat→List Fil→Int
 | _,[]=>-1
 | i,f::fs=>if l.contains f.num then Dc l (i+1) fs else i
theorem Vd {l:List Int}{s:List Fil}{k:Nat}{f:Fil}(h:Dc l k (s.drop k)=Dc l 0 s) (hd:s.drop k=f::s.drop (k+1)) (hc:(!(l.contains f.num))=false):Dc l (k+1) (s.drop (k+1))=Dc l 0 s:=by
 rw [← h,hd]
 show _=if l.contains f.num then Dc l (k+1) (s.drop (k+1)) else (k:Int)
 rw [if_pos (by simpa using hc)]
theorem SY {l:List Int}{s:List Fil}{k:Nat}{f:Fil}(h:Dc l k (s.drop k)=Dc l 0 s) (hd:s.drop k=f::s.drop (k+1)) (hc:(!(l.contains f.num))=true):(k:Int)=Dc l 0 s:=by
 rw [← h,hd]
 show _=if l.contains f.num then Dc l (k+1) (s.drop (k+1)) else (k:Int)
 rw [if_neg (by simpa using hc)]
theorem SZ {l:List Int}{s:List Fil}{k:Nat}(h:Dc l k (s.drop k)=Dc l 0 s) (hk:s.length≤k):(-1:Int)=Dc l 0 s:=by
 rw [Aa hk] at h
 exact h
theorem HC (l:List Int):∀ (s:List Fil) (i:Nat),(Dc l i s = -1∧s.filter (fun f=>l.contains f.num)=s)∨∃ k:Nat,Dc l i s=(i+k:Nat)∧k< s.length∧s.take k=(s.take (k+1)).filter (fun f=>l.contains f.num):=by
 intro s
 induction s with
 | nil=>intro i; exact .inl ⟨rfl,rfl⟩
 | cons f fs ih =>
   intro i
   unfold Dc
   by_cases hc:l.contains f.num=true
   ·rw [if_pos hc]
    rcases ih (i+1) with ⟨h1,h2⟩ | ⟨k,h1,h2,h3⟩
    ·left
     refine ⟨h1,?_⟩
     rw [List.filter_cons,if_pos hc,h2]
    ·right
     refine ⟨k+1,by rw [h1]; omega,by simp; omega,?_⟩
     rw [List.take_succ_cons,List.take_succ_cons,List.filter_cons,if_pos hc,← h3]
   ·rw [if_neg hc]
    right
    refine ⟨0,by simp,by simp,?_⟩
    simp only [List.take_zero,Nat.zero_add,List.take_succ_cons]
    rw [List.filter_cons,if_neg hc]
    rfl
theorem Pk {l:List Int}{s:List Fil}(h:¬ Dc l 0 s = -1):0≤Dc l 0 s:=by
 rcases HC l s 0 with ⟨h1,_⟩ | ⟨k,h1,_⟩
 ·exact absurd h1 h
 ·omega
theorem Pl (l:List Int) (s:List Fil):Dc l 0 s< s.length∨s.length=0∧Dc l 0 s = -1:=by
 rcases HC l s 0 with ⟨h1,_⟩ | ⟨k,h1,h2,_⟩
 ·by_cases e:s.length=0
  ·exact .inr ⟨e,h1⟩
  ·exact .inl AB
 ·exact .inl AB
theorem Qh {l:List Int}{s:List Fil}(h:¬ Dc l 0 s = -1):s.take (Dc l 0 s).toNat=(s.take (Dc l 0 s+1).toNat).filter (fun f=>l.contains f.num):=by
 rcases HC l s 0 with ⟨h1,_⟩ | ⟨k,h1,h2,h3⟩
 ·exact absurd h1 h
 ·rw [h1,show (((0+k:Nat):Int)).toNat=k by omega,show (((0+k:Nat):Int)+1).toNat=k+1 by omega]
  exact h3
theorem T9 {l:List Int}{s:List Fil}(h:Dc l 0 s = -1):s=s.filter (fun f=>l.contains f.num):=by
 rcases HC l s 0 with ⟨_,h1⟩ | ⟨k,h1,h2,h3⟩
 ·exact h1.symm
 ·omega
theorem JX {α:Type}{a b:List α}{j:Nat}{x:α}(h:a.drop j=b.drop j) (hx:a[j]? = some x):b[j]? = some x:=by
 have h1:(a.drop j)[0]? = (b.drop j)[0]? := by rw [h]
 rw [List.getElem?_drop,List.getElem?_drop,Nat.add_zero] at h1
 rw [← h1]; exact hx
theorem L1 {α:Type}{b:List α}{j:Int}{x:α}(hj:0≤j) (hx:b[j.toNat]? = some x):b.take (j+1).toNat=b.take j.toNat++[x]:=by
 rw [show (j+1).toNat=j.toNat+1 by omega,List.take_add_one,hx]
 rfl
theorem Sa {l:List Int}{xs xs0:List Fil}{i j:Int}{v:Fil}(h:xs.take i.toNat=(xs0.take j.toNat).filter (fun f=>l.contains f.num)) (h2:xs.drop j.toNat=xs0.drop j.toNat) (hv:xs[j.toNat]? = some v) (hi:0≤i) (hij:i< j) (hl:j< xs.length) (hc:(!(l.contains v.num))=false):(xs.set i.toNat v).take (i+1).toNat=(xs0.take (j+1).toNat).filter (fun f=>l.contains f.num):=by
 have h0:=JX h2 hv
 rw [L1 AB h0,List.filter_append,← h,List.filter_cons,if_pos (by simpa using hc),show (i+1).toNat=i.toNat+1 by omega,List.take_add_one,List.take_set_of_le (Nat.le_refl _),List.getElem?_set_self AB]
 rfl
theorem Sc {l:List Int}{xs xs0:List Fil}{i j:Int}{v:Fil}(h:xs.take i.toNat=(xs0.take j.toNat).filter (fun f=>l.contains f.num)) (h2:xs.drop j.toNat=xs0.drop j.toNat) (hv:xs[j.toNat]? = some v) (hj:0≤j) (hc:(!(l.contains v.num))=true):xs.take i.toNat=(xs0.take (j+1).toNat).filter (fun f=>l.contains f.num):=by
 have h0:=JX h2 hv
 rw [L1 hj h0,List.filter_append,← h,List.filter_cons,if_neg (by simpa using hc)]
 simp
theorem Qi {xs xs0:List Fil}{i j:Int}{v:Fil}(h2:xs.drop j.toNat=xs0.drop j.toNat) (hi:0≤i) (hij:i< j) (_hj:0≤j):(xs.set i.toNat v).drop (j+1).toNat=xs0.drop (j+1).toNat:=by
 rw [List.drop_set_of_lt AB,show (j+1).toNat=j.toNat+1 by omega,← List.drop_drop,← List.drop_drop,h2]
theorem Sd {xs xs0:List Fil}{j:Int}(h2:xs.drop j.toNat=xs0.drop j.toNat) (hj:0≤j):xs.drop (j+1).toNat=xs0.drop (j+1).toNat:=by
 rw [show (j+1).toNat=j.toNat+1 by omega,← List.drop_drop,← List.drop_drop,h2]
theorem UA {l:List Int}{xs xs0:List Fil}{i j:Int}(h:xs.take i.toNat=(xs0.take j.toNat).filter (fun f=>l.contains f.num)) (h2:xs.drop j.toNat=xs0.drop j.toNat) (hj:(xs.length:Int)≤j) (hij:0≤j):xs.take i.toNat=xs0.filter (fun f=>l.contains f.num):=by
 rw [h]
 congr 1
 have h3:xs0.drop j.toNat=[]:=by rw [← h2]; exact List.drop_of_length_le AB
 rw [List.drop_eq_nil_iff] at h3
 exact List.take_of_length_le h3
end Go.Proofs.YtggnnidleedpaaaGreat
namespace Go.Proofs.YtggnnidleedpaaaGreat
set_option maxRecDepth 100000
set_option maxHeartbeats 4000000
variable {w:World} {F:Nat→Prop}
theorem JK {r n c i:Nat}{xs:List Fil}{a b:Int}(ho:Own w r 50 F n c xs) (ha:a=(i:Int)) (hb:b=(i:Int)+1) (hi:i< n) (hn:n≤1000000):Calls Tryz.prog 143 [.slice (some ⟨r,0,none⟩) n c,.int .i64 a,.int .i64 b].toArray w (Am fun rv w'=>(rv=.slice (some ⟨r,0,none⟩) (n - 1) c∧Own w' r 50 F (n - 1) c (xs.take i++xs.drop (i+1)))∧Chg (one r) w w'):=by
 subst ha hb
 refine goT func143 ?_
 have hle:=ho.le
 obtain ⟨cs,hB,hl⟩:=ho.VG
 have hz:Rep.sz Fil=3:=rfl
 rw [hz] at hl
 refine .s<|.g<|.r 1<|.d<|.s<|.g<|.r 5<|RG.WE (t:=33) (k:=.i64) (k2:=.i64) (k3:=.i64) (a:=some ⟨r,0,none⟩) (len:=n) (cap:=c) (i1:=(i:Int)) (i2:=(i:Int)+1) (i3:=(n:Int)) (sz:=3) i (i+1) n AA AA rfl AB rfl AB AB hle fun v_=>.d<|.s<|.s<|.g<|.r 2<|.eq (i:Int) ((i:Int)+1) (fun h=>absurd (show False by omega) id) fun _=>.d<|.cf<|.sk<|.s<|.g<|.r 3<|.d<|.s<|.gd (one r) 7 fun w1 hx1=>?_
 refine .r [0,1]<|GA.HH (i:=2) (t:=33) (r:=r) (o:=0) (len:=n) (cap:=c) (lo:=none) (hi:=some (vI (i:Int))) (sz:=3) 0 i AA AA AA (.inl ⟨rfl,rfl⟩) (.inr ⟨_,_,rfl,rfl⟩) AB AB AB<|.r [3,4]<|GA.WG (i:=5) (t:=33) (r:=r) (len:=n) (cap:=c) (lo:=some (vI ((i:Int)+1))) (hi:=none) (sz:=3) (i+1) n AA AA AA (.inr ⟨_,_,rfl,by omega⟩) (.inl ⟨rfl,rfl⟩) AB AB fun a2 c2 h2=>?_
 refine .go 6<|GE.append (T:=33) (ty:=33) (args:=[.slice (some ⟨r,0,none⟩) i c,.slice a2 (n - (i+1)) c2]) AA fun w2 hx2=>?_
 have hx12:Ext w w2:=hx1.trans hx2
 have m1:(i+1) * 3+(n - (i+1)) * 3=n * 3:=by omega
 have hB2:=hB.ext hx12
 obtain ⟨w3,hr,hB3,hx3⟩:=Ni (P:=Tryz.prog) (T:=33) (ty:=33) (t:=50) (sz:=3) (i:=i) (c:=c) (m:=n - (i+1)) (c':=c2) (a2:=a2) (vs:=(cs.drop ((i+1) * 3)).take ((n - (i+1)) * 3)) AA hB2
  (fun hp=>⟨_,h2 hp,fun k u hu=>by
   rw [add_lit]
   unfold Box at hB2
   simp only [World.cell?,hB2]
   rw [List.getElem?_take] at hu
   split at hu
   ·rw [List.getElem?_drop] at hu
    simpa using hu
   ·cases hu⟩) (by rw [List.length_take,List.length_drop]; omega) AB (by rw [List.length_take,List.length_drop]; omega) (fun v hv=>ho.Wo (i:=i+1) hB v AB hv)
 refine ⟨_,w3,hr,hx3,.d fun w4 hx4=>.r 1<|.d<|.s<|.g<|.r 4<|?_⟩
 have hB4:=hB3.ext hx4
 have hlen:i+(n - (i+1))=n - 1:=by omega
 rw [hlen]
 refine RG.HH (t:=33) (r:=r) (o:=0) (len:=n - 1) (cap:=c) (lo:=some (vI ((n - 1:Nat):Int))) (hi:=some (vI (n:Int))) (sz:=3) (n - 1) n AA AA (.inr ⟨_,_,rfl,rfl⟩) (.inr ⟨_,_,rfl,rfl⟩) AB AB AB ?_
 have h1:n - (n - 1)=1:=by omega
 rw [h1]
 have hl4:(BA cs (i * 3) ((cs.drop ((i+1) * 3)).take ((n - (i+1)) * 3))).length=c * 3:=by rw [D3 (by rw [List.length_take,List.length_drop]; omega)]; exact hl
 obtain ⟨vs,w5,hr5,hv5,hB5,hx5⟩:=Nj (P:=Tryz.prog) (T:=33) (ty:=0) (t:=50) (sz:=3) (o:=0+(n - 1) * 3) (c:=c - (n - 1)) AA hB4 AB
 rw [Nat.zero_add] at hB5
 have hd:=Lv (sz:=3) hl hi hle rfl hv5
 have hx:Chg (one r) w w5:=(((hx12.chg (S:=one r)).trans hx3).trans hx4.chg).trans hx5
 refine RG.clear (ats:=[33]) (ty:=0) (args:=[.slice (some ⟨r,0+(n - 1) * 3,none⟩) 1 (c - (n - 1))]) AA hr5<|.d<|.s<|.g<|.r 2<|.d<|.rt func143 results143 (.slice (some ⟨r,0,none⟩) (n - 1) c) ⟨⟨rfl,Own.R9 ho hx hB hB5 (by rw [hz]; exact hd.1) hi (by rw [hz]; exact hd.2)⟩,hx⟩
end Go.Proofs.YtggnnidleedpaaaGreat
