/- Blocks and parts merged, as the program does it: plain laws. -/
import Derived.Test.YtckdhcbbgmiccaaGreatWyzMod30
import Derived.Test.YtckdhcbbgmiccaaGreatWyzMod23
open Go.Proofs.Tryz
set_option linter.unusedVariables false
set_option linter.unusedSimpArgs false
namespace Go.Proofs.YtckdhcbbgmiccaaGreat
theorem JZ {b:List Row}(h:Bc b=true):Blk b:=by
 unfold Bc at h
 simp only [AW] at h
 exact h.1
def Bz (a b:List Row):List Row × Bool:=if Bc a=true∧Bc b=true∧¬ ((BZ a b).length:Int) > 24 then (BZ a b,true) else ([],false)
theorem KB {a b:List Row}(h:Bc a=false∨Bc b=false):Bz a b=([],false):=by
 unfold Bz
 rw [if_neg]
 rintro ⟨h1,h2,_⟩
 rcases h with h | h
 ·rw [h] at h1; cases h1
 ·rw [h] at h2; cases h2
theorem PV {a b out:List Row}(e:out=BZ a b) (_ha:Bc a=true) (_hb:Bc b=true) (h:(out.length:Int) > 24):[]=(Bz a b).1∧false=(Bz a b).2:=by
 subst e
 unfold Bz
 rw [if_neg (fun q=>q.2.2 h)]
 exact ⟨rfl,rfl⟩
theorem PW {a b out:List Row}(e:out=BZ a b) (ha:Bc a=true) (hb:Bc b=true) (h:¬ (out.length:Int) > 24):out=(Bz a b).1∧true=(Bz a b).2:=by
 subst e
 unfold Bz
 rw [if_pos ⟨ha,hb,h⟩]
 exact ⟨rfl,rfl⟩
theorem Rz {a b:List Row}(h:(Bz a b).2=true):(Bz a b).1=BZ a b:=by
 unfold Bz at h ⊢
 split at h
 ·rename_i h1; rw [if_pos h1]
 ·cases h
def okM (a b:Prt) (n:Nat):Bool:=(List.range n).all (fun i=>(Bz (BE a ((i:Int)+1)) (BE b ((i:Int)+1))).2)
theorem R0 (a b:Prt) (n:Nat):okM a b (n+1)=(okM a b n&&(Bz (BE a ((n:Int)+1)) (BE b ((n:Int)+1))).2):=by simp [okM,List.range_succ]
def Bx (a b:Prt):Prt × Bool:=if At a=true∧At b=true∧okM a b 6=true then (BB a b,true) else (⟨[],[]⟩,false)
theorem KC {a b:Prt}(h:At a=false∨At b=false):Bx a b=(⟨[],[]⟩,false):=by
 unfold Bx
 rw [if_neg]
 rintro ⟨h1,h2,_⟩
 rcases h with h | h
 ·rw [h] at h1; cases h1
 ·rw [h] at h2; cases h2
theorem PX {a b:Prt}{k:Nat}(h1:1≤k) (h2:k≤6) (h:(Bz (BE a (k:Int)) (BE b (k:Int))).2=false):Bx a b=(⟨[],[]⟩,false):=by
 unfold Bx
 rw [if_neg]
 rintro ⟨_,_,h3⟩
 unfold okM at h3
 rw [List.all_eq_true] at h3
 have:=h3 (k - 1) (by simp; omega)
 rw [show ((k - 1:Nat):Int)+1=(k:Int) by omega,h] at this
 cases this
theorem Na {a b:Prt}{k:Nat}(h:okM a b (k - 1)=true) (h1:1≤k) (h2:(Bz (BE a (k:Int)) (BE b (k:Int))).2=true):okM a b (k+1 - 1)=true:=by
 rw [show k+1 - 1=(k - 1)+1 by omega,R0,h,show ((k - 1:Nat):Int)+1=(k:Int) by omega,h2]
 rfl
theorem PY {a b:Prt}(ha:At a=true) (hb:At b=true){k:Nat}(hk:1≤k) (h:(Bz (BE a (k:Int)) (BE b (k:Int))).2=true):BR a b (k+1 - 1)=BR a b (k - 1)++[(Bz (BE a (k:Int)) (BE b (k:Int))).1]:=by
 have ea:BE a (k:Int)=partOf a (k:Int):=by unfold BE; rw [if_pos ha]
 have eb:BE b (k:Int)=partOf b (k:Int):=by unfold BE; rw [if_pos hb]
 rw [show k+1 - 1=(k - 1)+1 by omega,Hx,show ((k - 1:Nat):Int)+1=(k:Int) by omega,Rz h,ea,eb]
section
variable {a b:Prt} {k:Nat}
theorem Th {o:List Int}(ha:At a=true) (hb:At b=true) (hk:1≤k) (h:(Bz (BE a (k:Int)) (BE b (k:Int))).2=true) (e:o=(BI 0 (BR a b (k - 1))).1) (hl:((Bz (BE a (k:Int)) (BE b (k:Int))).1.length:Int) > 0):o++[(k:Int)]=(BI 0 (BR a b (k+1 - 1))).1:=by
 rw [PY ha hb hk h,DL,if_pos AB,e,Dl,show ((0:Nat):Int)+((k - 1:Nat):Int)+1=(k:Int) by omega]
theorem Ti {o:List Int}(ha:At a=true) (hb:At b=true) (hk:1≤k) (h:(Bz (BE a (k:Int)) (BE b (k:Int))).2=true) (e:o=(BI 0 (BR a b (k - 1))).1) (hl:¬ ((Bz (BE a (k:Int)) (BE b (k:Int))).1.length:Int) > 0):o=(BI 0 (BR a b (k+1 - 1))).1:=by
 rw [PY ha hb hk h,DL,if_neg AB,e]
theorem Tj {o:List (List Row)}(ha:At a=true) (hb:At b=true) (hk:1≤k) (h:(Bz (BE a (k:Int)) (BE b (k:Int))).2=true) (e:o=(BI 0 (BR a b (k - 1))).2) (hl:((Bz (BE a (k:Int)) (BE b (k:Int))).1.length:Int) > 0):o++[(Bz (BE a (k:Int)) (BE b (k:Int))).1]=(BI 0 (BR a b (k+1 - 1))).2:=by
 rw [PY ha hb hk h,DL,if_pos AB,e]
theorem Tk {o:List (List Row)}(ha:At a=true) (hb:At b=true) (hk:1≤k) (h:(Bz (BE a (k:Int)) (BE b (k:Int))).2=true) (e:o=(BI 0 (BR a b (k - 1))).2) (hl:¬ ((Bz (BE a (k:Int)) (BE b (k:Int))).1.length:Int) > 0):o=(BI 0 (BR a b (k+1 - 1))).2:=by
 rw [PY ha hb hk h,DL,if_neg AB,e]
theorem PZ {x:List Int}{y:List (List Row)}(hk:k=7) (ha:At a=true) (hb:At b=true) (e1:x=(BI 0 (BR a b (k - 1))).1) (e2:y=(BI 0 (BR a b (k - 1))).2) (h:okM a b (k - 1)=true):(⟨x,y⟩:Prt)=(Bx a b).1∧true=(Bx a b).2:=by
 subst hk e1 e2
 unfold Bx
 rw [if_pos ⟨ha,hb,h⟩]
 exact ⟨rfl,rfl⟩
end
theorem Lq {p:Prt}(h:Cs p) (id:Int):(BE p id).length≤1000:=by
 unfold BE
 split
 ·exact DF h id
 ·simp
def BL (s:Sto) (at_:Int):Sto × Bool:=if Ac s then BC (AZ s) at_ else (⟨⟨[],[]⟩,[],[]⟩,false)
theorem JE {s:Sto}{i:Int}(h:Ac s=false):BL s i=(⟨⟨[],[]⟩,[],[]⟩,false):=by unfold BL; rw [if_neg (by simp [h])]
theorem F5 {s:Sto}{i:Int}(h:Ac s=true):BL s i=BC (AZ s) i:=by unfold BL; rw [if_pos h]
end Go.Proofs.YtckdhcbbgmiccaaGreat
namespace Go.Proofs.YtckdhcbbgmiccaaGreat
set_option maxRecDepth 100000
set_option maxHeartbeats 4000000
variable {w:World} {F:Nat→Prop} {a1 a2 a3 a4:Option Addr} {n1 c1 n2 c2 n3 c3 n4 c4:Nat}
theorem IN (a:List Row) (b:List Row) (h1:RepS w F a1 n1 c1 a) (h2:RepS w F a2 n2 c2 b) (p0:a.length≤1000) (p1:b.length≤1000):Calls Tryz.prog 119 [.slice a1 n1 c1,.slice a2 n2 c2].toArray w (Al fun rv w'=>(∃ v0,rv=.tuple #[v0,.bool ((Bz a b).2)]∧VL (ge w.heap.size) w' ((Bz a b).1:List Row) v0)∧Ext w w'):=by
 cases h1.len
 cases h2.len
 refine goT func119 ?_
 have Z:=((St.i0 F w).p h1).p h2
 refine .s<|.g<|.r 2<|.d<|.s<|.s<|.g<|.r 1<|RG.C0 (DH a (Z.a 1)) Z fun w Z=>?_
 cases am:(Bc a)
 ·exact .r 6<|.d<|.ct<|.s<|.g<|RG.N0 Row 0 Z fun az w Z=>.r 2<|.d<|T.r2 func119 results119 (.T _) (.t (.bool false)) ⟨⟨_,(Br rfl (AG (by exact (congrArg Prod.snd (KB (.inl ‹_›))).symm))),Z.rM 0 ([]:List Row) (by exact (congrArg Prod.fst (KB (.inl ‹_›))).symm)⟩,Z.xt⟩
 refine .r 3<|RG.C0 (DH b (Z.a 0)) Z fun w Z=>?_
 cases ao:(Bc b)
 ·exact .r 2<|.d<|.ct<|.s<|.g<|RG.N0 Row 0 Z fun aA w Z=>.r 2<|.d<|T.r2 func119 results119 (.T _) (.t (.bool false)) ⟨⟨_,(Br rfl (AG (by exact (congrArg Prod.snd (KB (.inr ‹_›))).symm))),Z.rM 0 ([]:List Row) (by exact (congrArg Prod.fst (KB (.inr ‹_›))).symm)⟩,Z.xt⟩
 refine .r 2<|.d<|.cf<|.sk<|.s<|.g<|RG.N0 Row 0 Z fun aB w Z=>.r 1<|RG.An (hf:=.inr Bj) 0 1 ([]:List Row) a Z fun ag ah w Z=>.r 1<|.d<|.s<|.s<|.g<|.r 3<|.d<|.b 0 ?_
 have Z:=Z.sl 0
 refine T.Lp ((([]++a):List Row),sA ag,ah,(0:Nat)) (fun (out,a_out,c_out,k)=>([(6,.slice a_out out.length c_out),(21,.slice a2 b.length c2),(22,vI (b.length:Int)),(23,vI (k:Int))],[],[⟨0,none,.rep a_out c_out out⟩],b.length - k,(k≤b.length)∧(Blk out)∧((b.drop k).foldl EA out=BZ a b))) [0] Z ⟨AB,(by exact JZ ‹_›),AF⟩ ?_
 rintro ⟨out,a_out,c_out,k⟩ aC w Z ⟨aq,ar,ax⟩ aa
 refine .s<|.g<|.bp ((k:Int)< (b.length:Int)) (fun ab=>?_) (fun ab=>.d<|.s<|.cf<|.x 0 rfl<|.s<|.s<|.g<|.r 2<|.bp ((out.length:Int) > 24) (fun ac=>.d<|.ct<|.s<|.g<|RG.N0 Row 0 Z fun aD w Z=>.r 2<|.d<|T.r2 func119 results119 (.T _) (.t (.bool false)) ⟨⟨_,(Br rfl (AG (by exact (PV (out:=out) (FD ‹_› AB) ‹_› ‹_› AB).2))),Z.rM 0 ([]:List Row) (by exact (PV (out:=out) (FD ‹_› AB) ‹_› ‹_› AB).1)⟩,Z.xt⟩) fun ac=>.d<|.cf<|.sk<|.s<|.g<|.r 3<|.d<|T.r2 func119 results119 (.T _) (.t (.bool true)) ⟨⟨_,(Br rfl (AG (by exact (PW (out:=out) (FD ‹_› AB) ‹_› ‹_› AB).2))),Z.rL 0 out (by exact (PW (out:=out) (FD ‹_› AB) ‹_› ‹_› AB).1)⟩,Z.xt⟩)
 exact .d<|.s<|.ct<|.sk<|.s<|.b 1<|.s<|.g<|gxb b k fun ae E ay af=>RG.Ix 2 E Z<|Z.el 2 E fun Z=>RG.Lg 0 0 Z<|RG.Np Z fun aE w Z=>RG.Ss 0 Z fun w Z=>.d<|.g<|.r 1<|RG.Ln 0 Z<|RG.CL (Hc out ae (Z.a 1) (by have:=Blk.len (by assumption:Blk out); omega)) Z fun ai aj w Z=>.r 1<|.d<|.ib 1<|.g<|.it ((k:Int)+1)<|.r 1<|.d<|aa (Cu ae out,ai,aj,k+1) _ _ AA (Z.to 1 [0] 3) ⟨AB,(by exact Blk.ins ‹_› ((JZ (by assumption:Bc b=true)).rows _ ‹_›)),(by rw [← Fa ‹_›]; exact E0 ‹_› ‹_›)⟩ (by (simp only []; omega))
theorem EJ (a:Prt) (b:Prt) (h1:RepS w F a1 n1 c1 a.ids) (h2:RepS w F a2 n2 c2 a.blocks) (h3:RepS w F a3 n3 c3 b.ids) (h4:RepS w F a4 n4 c4 b.blocks) (p0:Cs a) (p1:Cs b):Calls Tryz.prog 66 [.agg #[.slice a1 n1 c1,.slice a2 n2 c2],.agg #[.slice a3 n3 c3,.slice a4 n4 c4]].toArray w (Al fun rv w'=>(∃ v0,rv=.tuple #[v0,.bool ((Bx a b).2)]∧VS (ge w.heap.size) w' ((Bx a b).1:Prt) v0)∧Ext w w'):=by
 refine goT func66 ?_
 obtain ⟨rfl,eC,h1⟩:=h1.tp
 obtain ⟨rfl,eD,h2⟩:=h2.tp
 obtain ⟨rfl,eE,h3⟩:=h3.tp
 obtain ⟨rfl,eF,h4⟩:=h4.tp
 refine .s<|.g<|.np 66 [.slice a1 a.ids.length c1,.slice a2 a.blocks.length c2] fun ai fg bL bg aa cW=>?_
 replace ⟨h1,h2,h3,h4⟩:=(sn [] bg bL).g4 h1 h2 h3 h4
 have E:=bg
 refine .np 66 [.slice a3 b.ids.length c3,.slice a4 b.blocks.length c4] fun aj fi bM bN ab cX=>?_
 replace ⟨h1,h2,h3,h4,aa,E⟩:=(sn [ai] bN bM).g6 h1 h2 h3 h4 aa E
 refine .np 66 [AH,AH] fun ak dD aU bO ac cY=>?_
 have eG:=Ab aU aa.lt
 have eH:=Ab aU ab.lt
 have eI:=E.cn aU
 replace ⟨h1,h2,h3,h4,aa,ab,E⟩:=(sn [aj,ai] bO aU).g7 h1 h2 h3 h4 aa ab E
 refine .r 1<|.d<|.s<|.s<|.g<|.ln aa<|.cl (C4 a h1.ta h2.ta (w:=dD) (F:=all)) ?_
 rintro fj dE ⟨rfl,bP⟩
 replace ⟨h1,h2,h3,h4,aa,ab,ac,E⟩:=(se [ak,aj,ai] bP).g8 h1 h2 h3 h4 aa ab ac E
 cases eJ:(At a)
 ·refine .r 6<|.d<|.ct<|.s<|.g<|.r 1<|.sc [AH,AH] ac fun fm bQ cZ c7=>?_
  replace ⟨h1,h2,h3,h4,aa,ab,E⟩:=(so [ak,aj,ai] bQ).g7 h1 h2 h3 h4 aa ab E
  exact .r 1<|.d<|.r2 func66 results66 (.bx cZ) (.t (.bool false)) ⟨⟨_,(Br rfl (AG (by exact (congrArg Prod.snd (KC (.inl ‹_›))).symm))),(VS.of (y:=(⟨([]:List Int),([]:List (List Row))⟩:Prt)) ⟨_,rfl,⟨_,_,_,_,_,_,rfl,(RepS.BM _ _ none 0 AE),(RepS.BM _ _ none 0 AE)⟩⟩ (by exact (congrArg Prod.fst (KC (.inl ‹_›))).symm))⟩,E⟩
 refine .r 2<|.ln ab<|.cl (C4 b h3.ta h4.ta (w:=dE) (F:=all)) ?_
 rintro fp fq ⟨rfl,bR⟩
 replace ⟨h1,h2,h3,h4,aa,ab,ac,E⟩:=(se [ak,aj,ai] bR).g8 h1 h2 h3 h4 aa ab ac E
 cases eK:(At b)
 ·refine .r 2<|.d<|.ct<|.s<|.g<|.r 1<|.sc [AH,AH] ac fun fu bS c8 da=>?_
  replace ⟨h1,h2,h3,h4,aa,ab,E⟩:=(so [ak,aj,ai] bS).g7 h1 h2 h3 h4 aa ab E
  exact .r 1<|.d<|.r2 func66 results66 (.bx c8) (.t (.bool false)) ⟨⟨_,(Br rfl (AG (by exact (congrArg Prod.snd (KC (.inr ‹_›))).symm))),(VS.of (y:=(⟨([]:List Int),([]:List (List Row))⟩:Prt)) ⟨_,rfl,⟨_,_,_,_,_,_,rfl,(RepS.BM _ _ none 0 AE),(RepS.BM _ _ none 0 AE)⟩⟩ (by exact (congrArg Prod.fst (KC (.inr ‹_›))).symm))⟩,E⟩
 refine .r 2<|.d<|.cf<|.sk<|.s<|.g<|.ns 0 3 [] fun aC dF aL bT db de=>?_
 have df:=Ab aL aa.lt
 have dh:=Ab aL ab.lt
 have dj:=Ab aL ac.lt
 have dm:=BT aL E.size
 have dp:=E.cn aL
 replace ⟨h1,h2,h3,h4,aa,ab,ac,E⟩:=(sn [ak,aj,ai] bT aL).g8 h1 h2 h3 h4 aa ab ac E
 have aE:Own (α:=Int) dF aC 3 (nin (ge w.heap.size) [aC,ak,aj,ai]) 0 0 []:=Own.BM db
 refine .ns 0 55 [] fun aH dG aI bU dq dt=>?_
 have du:=Ab aI aa.lt
 have dv:=Ab aI ab.lt
 have dw:=Ab aI ac.lt
 have dx:=Ab aI aE.lt
 have dy:=BT aI E.size
 have dz:=E.cn aI
 replace ⟨h1,h2,h3,h4,aa,ab,ac,aE,E⟩:=(sn [aC,ak,aj,ai] bU aI).g9 h1 h2 h3 h4 aa ab ac aE E
 have aO:Own (α:=List Row) dG aH 55 (nin (ge w.heap.size) [aH,aC,ak,aj,ai]) 0 0 []:=Own.BM dq
 refine .r 1<|.np 66 [AH,AH] fun al fv aJ bh b0 b6=>?_
 have dH:=Ab aJ aa.lt
 have dI:=Ab aJ ab.lt
 have dJ:=Ab aJ ac.lt
 have b7:=Ab aJ aE.lt
 have b8:=Ab aJ aO.lt
 have dK:=E.cn aJ
 replace ⟨h1,h2,h3,h4,aa,ab,ac,aE,aO,E⟩:=(sn [aH,aC,ak,aj,ai] bh aJ).g10 h1 h2 h3 h4 aa ab ac aE aO E
 refine .sc [vS aC 0 0,vS aH 0 0] b0 fun aM bi aV b9=>?_
 replace ⟨h1,h2,h3,h4,aa,ab,ac,aE,aO,E⟩:=(so [al,aH,aC,ak,aj,ai] bi).g10 h1 h2 h3 h4 aa ab ac aE aO E
 refine .d<|.s<|.s<|.g<|.r 1<|.d<|.b 0<|T.loop (X:=Nat × (List Int) × Nat × Nat × Nat × (List (List Row)) × Nat × Nat × Nat) (1,([]:List Int),aC,0,0,([]:List (List Row)),aH,0,0) (fun (j,ax,r_out_0,n_out_0,c_out_0,ay,r_out_1,n_out_1,c_out_1)=>[(2,.pointer (some ⟨ai,0,none⟩)),(3,.pointer (some ⟨aj,0,none⟩)),(4,.pointer (some ⟨ak,0,none⟩)),(6,.pointer (some ⟨al,0,none⟩)),(7,vI (j:Int))]) (fun (j,ax,r_out_0,n_out_0,c_out_0,ay,r_out_1,n_out_1,c_out_1) aP=>Chg (ins [aC,aH,al]) aM aP∧Own aP r_out_0 3 (nin (ge w.heap.size) [al,r_out_1,r_out_0,ak,aj,ai]) n_out_0 c_out_0 ax∧OrB r_out_0 aC aM.heap.size∧Own aP r_out_1 55 (nin (ge w.heap.size) [al,r_out_1,r_out_0,ak,aj,ai]) n_out_1 c_out_1 ay∧OrB r_out_1 aH aM.heap.size∧Nb r_out_1 r_out_0∧Box aP al 66 [vS r_out_0 n_out_0 c_out_0,vS r_out_1 n_out_1 c_out_1]∧(1≤j)∧(j≤7)∧(ax.length≤j)∧(ay.length≤j)∧(ax=(BI 0 (BR a b (j - 1))).1)∧(ay=(BI 0 (BR a b (j - 1))).2)∧(okM a b (j - 1)=true)) (fun (j,ax,r_out_0,n_out_0,c_out_0,ay,r_out_1,n_out_1,c_out_1)=>7 - j) AA ⟨AA,AA,AA,AA,AA,trivial⟩ ⟨Chg.refl _ _,aE,Dt,aO,Dt,dx,aV,AB,AB,(by (simp; done)),(by (simp; done)),AF,AF,AF⟩ ?_
 rintro ⟨j,ax,r_out_0,n_out_0,c_out_0,ay,r_out_1,n_out_1,c_out_1⟩ eL aP ⟨af,ag,aq,ae,ar,bj,ah,dL,dM,dN,dO,dP,dQ,dR⟩ aQ
 have dS:=CW aq df aa.lt
 have dT:=CW aq dh ab.lt
 have dU:=CW aq dj ac.lt
 have cd:=CW aq (Nb.symm b7) aV.lt
 have ce:=Ih aq dm E.size
 have dV:=Ck aq dp E.size
 have dW:=CW ar du aa.lt
 have dX:=CW ar dv ab.lt
 have dY:=CW ar dw ac.lt
 have cg:=CW ar (Nb.symm b8) aV.lt
 have ci:=Ih ar dy E.size
 have dZ:=Ck ar dz E.size
 have cj:Cov (ins [aC,aH,al]) aM aC:=⟨.inl AI⟩
 have ck:Cov (ins [aC,aH,al]) aM aH:=⟨.inl AJ⟩
 have d0:Cov (ins [aC,aH,al]) aM al:=⟨.inl AK⟩
 have d3:=Ck aq cj (Nat.le_refl _)
 have d4:=Ck ar ck (Nat.le_refl _)
 have bk:Mv [al,aH,aC,ak,aj,ai] [al,r_out_1,r_out_0,ak,aj,ai] aM aP:=Mv.inl af (all_cons AK (all_cons AJ (all_cons AI all_nil))) (all_cons (.inl AI) (all_cons (E7 ar AJ) (all_cons (E7 aq AK) (all_cons (.inl AL) (all_cons (.inl AM) (all_cons (.inl AN) all_nil))))))
 replace ⟨h1,h2,h3,h4,aa,ab,ac,E⟩:=(sp bk af).g8 h1 h2 h3 h4 aa ab ac E
 have d5:=ag.len; have d6:=ag.max
 have d7:=ae.len; have d8:=ae.max
 refine .s<|.s<|.g<|.r 1<|.bp ((j:Int)≤6) (fun cm=>?_) (fun cm=>?_)
 ·refine .d<|.ct<|.sk<|.s<|.b 1<|.s<|.gd nil 11 fun eM bm=>?_
  replace ⟨h1,h2,h3,h4,aa,ab,ac,ag,ae,ah,E,af⟩:=(se [al,r_out_1,r_out_0,ak,aj,ai] bm).g12 h1 h2 h3 h4 aa ab ac ag ae ah E af
  refine .ln 0 aa id<|.r [1]<|.ln 3 ab id<|.r [4]<|.go 2<|.cl (fun bn aR=>FO a (j:Int) (h1.ta.ext aR) (h2.ta.ext aR) (by exact p0) (w:=bn) (F:=all)) ?_
  intro bn aR
  replace ⟨h3,h4,aa,ab,ac,ag,ae,ah,E,af⟩:=(se [al,r_out_1,r_out_0,ak,aj,ai] aR).g10 h3 h4 aa ab ac ag ae ah E af
  rintro eN eO ⟨⟨eP,eQ,rfl,aK⟩,aW⟩
  have bo:=al6 ah.lt ae.lt ag.lt ac.lt ab.lt aa.lt
  have co:Gb w.heap.size bn.heap.size:=E.size
  have hkeep_:=aW
  replace ⟨h3,h4,aa,ab,ac,ag,ae,ah,E,af⟩:=(se [al,r_out_1,r_out_0,ak,aj,ai] aW).g10 h3 h4 aa ab ac ag ae ah E af
  refine ⟨Ext.chg hkeep_,?_⟩
  have aK:=aK.fr bo co
  refine .go 5<|.cl (fun bq aS=>FO b (j:Int) (h3.ta.ext aS) (h4.ta.ext aS) (by exact p1) (w:=bq) (F:=all)) ?_
  intro bq aS
  replace ⟨aa,ab,ac,ag,ae,ah,aK,E,af⟩:=(se [al,r_out_1,r_out_0,ak,aj,ai] aS).g9 aa ab ac ag ae ah aK E af
  rintro eR eS ⟨⟨eT,eU,rfl,aZ⟩,aX⟩
  have br:=al6 ah.lt ae.lt ag.lt ac.lt ab.lt aa.lt
  have cp:Gb w.heap.size bq.heap.size:=E.size
  have hkeep_:=aX
  replace ⟨aa,ab,ac,ag,ae,ah,aK,E,af⟩:=(se [al,r_out_1,r_out_0,ak,aj,ai] aX).g9 aa ab ac ag ae ah aK E af
  refine ⟨Ext.chg hkeep_,?_⟩
  have aZ:=aZ.fr br cp
  refine .go 6<|.cl (fun bt aT=>IN (BE a (j:Int)) (BE b (j:Int)) (aK.ta.ext aT) (aZ.ta.ext aT) (by exact Lq p0 _) (by exact Lq p1 _) (w:=bt) (F:=all)) ?_
  intro bt aT
  replace ⟨aa,ab,ac,ag,ae,ah,E,af⟩:=(se [al,r_out_1,r_out_0,ak,aj,ai] aT).g8 aa ab ac ag ae ah E af
  rintro eV eW ⟨⟨eX,rfl,⟨dA,dB,rfl,ao⟩⟩,aY⟩
  have bu:=al6 ah.lt ae.lt ag.lt ac.lt ab.lt aa.lt
  have cq:Gb w.heap.size bt.heap.size:=E.size
  have hkeep_:=aY
  replace ⟨aa,ab,ac,ag,ae,ah,E,af⟩:=(se [al,r_out_1,r_out_0,ak,aj,ai] aY).g8 aa ab ac ag ae ah E af
  refine ⟨Ext.chg hkeep_,?_⟩
  have ao:=ao.fr bu cq
  refine .r [7,8] ?_
  cases eg:(Bz (BE a (j:Int)) (BE b (j:Int))).2
  ·refine .r [9,10]<|.d fun eY bv=>?_
   replace ⟨aa,ab,ac,ag,ae,ah,ao,E,af⟩:=(se [al,r_out_1,r_out_0,ak,aj,ai] bv).g9 aa ab ac ag ae ah ao E af
   refine .r 1<|.d<|.s<|.s<|.g<|.r 2<|.d<|.ct<|.s<|.g<|.r 1<|.sc [AH,AH] ac fun eZ bw cr cu=>?_
   replace ⟨aa,ab,ag,ae,ah,ao,E⟩:=(so [al,r_out_1,r_out_0,ak,aj,ai] bw).g7 aa ab ag ae ah ao E
   exact .r 1<|.d<|.r2 func66 results66 (.bx cr) (.t (.bool false)) ⟨⟨_,(Br rfl (AG (by exact (congrArg Prod.snd (PX (k:=j) AB AB ‹_›)).symm))),(VS.of (y:=(⟨([]:List Int),([]:List (List Row))⟩:Prt)) ⟨_,rfl,⟨_,_,_,_,_,_,rfl,(RepS.BM _ _ none 0 AE),(RepS.BM _ _ none 0 AE)⟩⟩ (by exact (congrArg Prod.fst (PX (k:=j) AB AB ‹_›)).symm))⟩,E⟩
  refine .r [9,10]<|.d fun e7 bz=>?_
  replace ⟨aa,ab,ac,ag,ae,ah,ao,E,af⟩:=(se [al,r_out_1,r_out_0,ak,aj,ai] bz).g9 aa ab ac ag ae ah ao E af
  refine .r 1<|.d<|.s<|.s<|.g<|.r 2<|.d<|.cf<|.sk<|.s<|.g<|.r 2<|.bp (((((Bz (BE a (j:Int)) (BE b (j:Int))).1).length):Int) > 0) (fun cw=>?_) (fun cw=>.d<|.cf<|.sk<|.ib 1<|.g<|.r 1<|.it ((j:Int)+1)<|.r 1<|.d<|aQ (j+1,ax,r_out_0,n_out_0,c_out_0,ay,r_out_1,n_out_1,c_out_1) _ _ ⟨AA,AA,AA,AA,AA,trivial⟩ ⟨af,ag,aq,ae,ar,bj,ah,AB,AB,AB,AB,(by exact Ti ‹_› ‹_› AB ‹_› ‹_› ‹_›),(by exact Tk ‹_› ‹_› AB ‹_› ‹_› ‹_›),(by exact Na ‹_› AB ‹_›)⟩ (by (simp only []; omega)))
  refine .d<|.ct<|.s<|.g<|.r 1<|.lb ah<|.r 1<|.ns 1 3 [vI (j:Int)] fun bV e8 az bA cx cy=>?_
  have cz:=Ab az aa.lt
  have cA:=Ab az ab.lt
  have cB:=Ab az ac.lt
  have bB:=Ab az ag.lt
  have cC:=Ab az ae.lt
  have cD:=Ab az ah.lt
  have cE:=BT az E.size
  replace ⟨aa,ab,ac,ag,ae,ah,ao,E,af⟩:=(se [al,r_out_1,r_out_0,ak,aj,ai] bA).g9 aa ab ac ag ae ah ao E af
  have ba:nin (ge w.heap.size) [al,r_out_1,r_out_0,ak,aj,ai] bV∧bV≠r_out_0:=Du cE (all_cons cD (all_cons cC (all_cons bB (all_cons cB (all_cons cA (all_cons cz all_nil)))))) bB
  refine RG.CU (T:=34) (ty:=34) (y:=(j:Int)) ag cx AA AA rfl ba AB fun aN bW fa am aF bC=>?_
  have cF:=Bd aF (Nb.symm bj) ae.lt
  have eh:=Bd aF cd ah.lt
  have cG:=HX aF aq af.size
  replace ⟨aa,ab,ac,ae,ah,ao,E,af⟩:=(sa [al,r_out_1,r_out_0,ak,aj,ai] bC aF).g8 aa ab ac ae ah ao E af
  replace am:=am.rn r_out_0
  have ej:=am.len
  refine .r 1<|.ss 0 (vS aN (n_out_0+1) bW) ah fun fb bD aA cH=>?_
  replace ⟨aa,ab,ac,am,ae,ao,E,af⟩:=(so [al,r_out_1,aN,ak,aj,ai] bD).g8 aa ab ac am ae ao E af
  refine .d<|.g<|.r 1<|.lb aA<|.r 1<|.ns 1 55 [.slice dA (((Bz (BE a (j:Int)) (BE b (j:Int))).1).length) dB] fun bX fd aB bE cI cJ=>?_
  have cK:=Ab aB aa.lt
  have cL:=Ab aB ab.lt
  have cM:=Ab aB ac.lt
  have cN:=Ab aB am.lt
  have bF:=Ab aB ae.lt
  have cO:=Ab aB aA.lt
  have cP:=BT aB E.size
  replace ⟨ac,am,ae,aA,ao,E,af⟩:=(se [al,r_out_1,aN,ak,aj,ai] bE).g7 ac am ae aA ao E af
  have bd:nin (ge w.heap.size) [al,r_out_1,aN,ak,aj,ai] bX∧bX≠r_out_1:=Du cP (all_cons cO (all_cons bF (all_cons cN (all_cons cM (all_cons cL (all_cons cK all_nil)))))) bF
  refine RG.CU (T:=64) (ty:=64) (y:=(Bz (BE a (j:Int)) (BE b (j:Int))).1) ae cI AA AA ⟨_,_,_,rfl,ao.oi⟩ bd AB fun bG bY fe aD aG bH=>?_
  have cQ:=Bd aG (Nb.symm cF) am.lt
  have en:=Bd aG cg aA.lt
  have cR:=HX aG ar af.size
  replace ⟨ac,am,aA,E,af⟩:=(sa [al,r_out_1,aN,ak,aj,ai] bH aG).g5 ac am aA E af
  replace aD:=aD.rn r_out_1
  have eA:=aD.len
  refine .r 1<|.ss 1 (vS bG (n_out_1+1) bY) aA fun ff bI cS cT=>?_
  replace ⟨ac,am,aD,E,af⟩:=(so [al,bG,aN,ak,aj,ai] bI).g5 ac am aD E af
  exact .d<|.ib 1<|.g<|.r 1<|.it ((j:Int)+1)<|.r 1<|.d<|aQ (j+1,(ax++[(j:Int)]),aN,n_out_0+1,bW,(ay++[(Bz (BE a (j:Int)) (BE b (j:Int))).1]),bG,n_out_1+1,bY) _ _ ⟨AA,AA,AA,AA,AA,trivial⟩ ⟨af,am,cG,aD,cR,cQ,cS,AB,AB,AB,AB,(by exact Th ‹_› ‹_› AB ‹_› ‹_› ‹_›),(by exact Tj ‹_› ‹_› AB ‹_› ‹_› ‹_›),(by exact Na ‹_› AB ‹_›)⟩ (by (simp only []; omega))
 refine .d<|.cf<|.x 0 rfl<|.s<|.g<|.ln ah<|.sc [vS r_out_0 n_out_0 c_out_0,vS r_out_1 n_out_1 c_out_1] ac fun bZ bJ cU cV=>?_
 replace ⟨ag,ae,E⟩:=(so [al,r_out_1,r_out_0,ak,aj,ai] bJ).g3 ag ae E
 refine .r 1<|.d ?_
 have bK:=ag.sl ce
 replace ae:=(sd bZ [al,r_out_1,r_out_0,ak,aj,ai] r_out_0).g1 ae
 have dC:=ae.sl ci
 replace bK:=(sd bZ [al,r_out_1,ak,aj,ai] r_out_1).g1 bK
 exact .r2 func66 results66 (.bx cU) (.t (.bool true)) ⟨⟨_,(Br rfl (AG (by exact (PZ (k:=j) AB ‹_› ‹_› ‹_› ‹_› ‹_›).2))),(VS.of (y:=(⟨ax,ay⟩:Prt)) ⟨_,rfl,⟨_,_,_,_,_,_,rfl,bK.w1,dC.w1⟩⟩ (by exact (PZ (k:=j) AB ‹_› ‹_› ‹_› ‹_› ‹_›).1))⟩,E⟩
end Go.Proofs.YtckdhcbbgmiccaaGreat
namespace Go.Proofs.YtckdhcbbgmiccaaGreat
theorem Nc {P:Program}{T ty t:TypeId}{sz:Nat}{w:World}{r i c m c':Nat}{a2:Option Addr}{cs vs:List Value}(hT:FI P T t sz=true) (hB:Box w r t cs) (hsrc:0< m→∃ x,a2=some x∧Has w x vs) (hvs:vs.length=m * sz) (hroom:i+m≤c) (hfit:i * sz+vs.length≤cs.length) (hone:∀ v∈vs,DP v=true) :
 ∃ w',(Builtin.append_ #[T,T] ty #[.slice (some ⟨r,0,none⟩) i c,.slice a2 m c']).run P w=.ok (.slice (some ⟨r,0,none⟩) (i+m) c) w'∧Box w' r t (Az cs (i * sz) vs)∧Chg (one r) w w':=by
 obtain ⟨g1,inf,z,hinf,hsz,_,_,_⟩:=Ek hT
 by_cases hm:m=0
 ·subst hm
  have:vs=[]:=List.length_eq_zero_iff.1 AB
  subst this
  refine ⟨w,F8 g1 hinf _ _ _ _ _ AB w,?_,Chg.refl _ _⟩
  unfold Az
  simpa using hB
 ·obtain ⟨x,rfl,hx⟩:=hsrc AB
  unfold Box at hB
  have hr:=run_append_room (P:=P) w T ty t inf g1 hinf r i c cs.toArray hB x m c' vs (by rw [hsz]; exact hvs) hx (fun u hu=>Mu (hone u hu)) hroom (by rw [hsz]; simpa using hfit)
  rw [hsz] at hr
  have hset:(w.setRow r (Az cs (i * sz) vs).toArray).heap[r]? = some (.cells (Az cs (i * sz) vs).toArray t (0,0)):=setRow_heap w r cs.toArray _ t _ hB
  refine ⟨_,hr,hset,⟨rfl,rfl,rfl,by simp [World.setRow],fun k _ hn=>setRow_other w r k _ hn⟩⟩
def Tl (P:Program) (T t:TypeId) (sz:Nat):Bool :=
 (match P.underlying T with | some (.slice e)=>Nat.beq e t | _=>false) &&
 (match P.info? t with | some i=>(match i.zero with | some z=>Nat.beq z.cells.size sz&&z.cells.toList.all DP | none=>false) | none=>false)
theorem Nd {P:Program}{T ty t:TypeId}{sz:Nat}{w:World}{r o c:Nat}{cs:List Value}(hT:Tl P T t sz=true) (hB:Box w r t cs) (hfit:o+sz≤cs.length) :
 ∃ vs w',(Builtin.clear_ #[T] ty #[.slice (some ⟨r,o,none⟩) 1 c]).run P w=.ok (.tuple #[]) w'∧vs.length=sz∧Box w' r t (Az cs o vs)∧Chg (one r) w w':=by
 unfold Tl at hT
 simp only [AW] at hT
 obtain ⟨h1,h2⟩:=hT
 split at h1
 ·rename_i e he
  have:=Nat.eq_of_beq_eq_true h1
  subst this
  split at h2
  ·rename_i inf hinf
   split at h2
   ·rename_i z hz
    simp only [AW,List.all_eq_true] at h2
    have hsz:=Nat.eq_of_beq_eq_true h2.1
    have hl:(Builtin.zeroCells z.cells 1).toList.length=sz:=by rw [Array.length_toList,size_zeroCells,hsz]; omega
    have ho:∀ v∈(Builtin.zeroCells z.cells 1).toList,DP v=true:=fun v hv=>by
     unfold Builtin.zeroCells at hv
     simp only [Array.toList_map,List.mem_map,Array.toList_range,List.mem_range] at hv
     obtain ⟨k,hk,rfl⟩:=hv
     have hk2:k % z.cells.size< z.cells.size:=Nat.mod_lt _ AB
     refine h2.2 _ ?_
     rw [getElem!_pos z.cells _ hk2]
     exact Array.getElem_mem_toList hk2
    obtain ⟨w',g1,g2,g3,_⟩:=hB.L7 (P:=P) (Builtin.zeroCells z.cells 1).toList (o:=o) (i:=0) AB ho
    refine ⟨_,w',?_,hl,g2,g3⟩
    have hv:(zeroValue e).run P w=.ok z w:=by simp [zeroValue,typeInfo,hinf,hz,go_sem]
    unfold Builtin.clear_
    simp only [List.getElem?_toArray,List.getElem?_cons_zero]
    rw [AX (run_underlying he w)]
    simp only []
    rw [AX hv,AX g1]
    rfl
   ·cases h2
  ·cases h2
 ·cases h1
section
variable {P:Program} {n:Nat} {K:Env→World→Prop} {ops:Array Oper} {j:Nat} {e:Env} {w:World}
theorem RG.clear {ats:List TypeId}{ty:TypeId}{args:List Value}{v:Value}{w':World}(h:CV n ops j e=some (.clear,ats,ty,args))
 (hr:(Builtin.clear_ ats.toArray ty args.toArray).run P w=.ok v w') (H:RG P n K ops (j+1) (Ah e (Ad ops j).dst v) w'):RG P n K ops j e w:=by
 obtain ⟨hg,h⟩:=CI h
 refine RG.val (v:=v) hg ?_ H
 split at h
 ·rename_i c hop
  split at h
  ·rename_i b hcal
   simp only [Option.some.injEq,Prod.mk.injEq] at h
   obtain ⟨rfl,rfl,rfl,rfl⟩:=h
   have ha:(c.args.toList.map (ev e)).toArray=c.args.map (ev e):=by apply Array.toList_inj.1; simp
   rw [ha,Array.toArray_toList] at hr
   simp only [execOp,hop,resolve,hcal]
   exact AX hr
  ·cases h
 ·cases h
def V2 (n:Nat) (ops:Array Oper) (j:Nat) (e:Env):Option (TypeId × Value × Value × Value × Value) :=
 bif CJ n ops j e then
  match (Ad ops j).op with
  | .slice t x (some lo) (some hi) (some mx)=>some (t,ev e x,ev e lo,ev e hi,ev e mx)
  | _=>none
 else none
theorem RG.V3 {t:TypeId}{sz:Nat}{a:Option Addr}{len cap:Nat}{k k2 k3:IntKind}{i1 i2 i3:Int}(l h' m:Nat) (h:V2 n ops j e=some (t,.slice a len cap,.int k i1,.int k2 i2,.int k3 i3)) (ht:Jd P t sz=true) (e1:i1=(l:Int)) (e2:i2=(h':Int)) (e3:i3=(m:Int)) (hlh:l≤h') (hh:h'≤m) (hm:m≤cap)
 (H:∀ v,RG P n K ops (j+1) (Ah e (Ad ops j).dst v) w):RG P n K ops j e w:=by
 obtain ⟨hg,h⟩:=CI h
 unfold Jd at ht
 split at ht
 ·rename_i el hu
  split at ht
  ·rename_i inf hinf
   have hun:(underlying t).run P w=.ok (.slice el) w:=by simp [underlying,hu,go_sem]
   refine RG.val (v:=.slice (if m=l then a else a.map (·.add (l * inf.size))) (h' - l) (m - l)) hg ?_ (H _)
   split at h
   ·rename_i t' x lo hi mx hop
    simp only [Option.some.injEq,Prod.mk.injEq] at h
    obtain ⟨rfl,hx,hlo,hhi,hmx⟩:=h
    simp only [execOp,hop]
    refine AX ?_
    simp only [Option.map_some,hx,hlo,hhi,hmx]
    unfold Instr.sliceAt
    rw [AX hun]
    simp only []
    unfold Instr.slice
    rw [AX hun]
    simp only []
    have hb:(Instr.sliceBounds true len cap (some (.int k i1)) (some (.int k2 i2)) (some (.int k3 i3))).run P w=.ok (l,h',m) w:=by
     unfold Instr.sliceBounds
     simp only []
     rw [AX (EF e3 hm w),AX (EF e2 hh w),AX (EF e1 hlh w)]
     rfl
    rw [AX hb]
    simp only []
    rw [AX (show (sizeOf el).run P w=.ok inf.size w by simp [sizeOf,typeInfo,hinf,go_sem])]
    rfl
   ·cases h
  ·cases ht
 ·cases ht
end
theorem GA.V4 {P:Program}{S:Nat→Prop}{n m:Nat}{L:Env→World→Prop}{ops:Array Oper}{l:List Nat}{e:Env}{w:World}{i:Nat}{t:TypeId}{sz r len cap:Nat}{lo hi:Option Value}(l' h':Nat) (hb:gB n m ops l i=true) (h:DC n ops i e=some (t,.slice (some ⟨r,0,none⟩) len cap,lo,hi)) (ht:Jd P t sz=true) (hlo:bnd lo 0 l') (hhi:bnd hi len h') (hlh:l'≤h') (hh:h'≤cap)
 (H:∀ a2 c2,(0< h' - l'→a2=some ⟨r,l' * sz,none⟩)→GA P S n m L ops (i::l) (Ah e (Ad ops i).dst (.slice a2 (h' - l') c2)) w):GA P S n m L ops l e w:=by
 refine GA.Je hb (fun w=>?_) (H (if cap=l' then some ⟨r,0,none⟩ else some ⟨r,l' * sz,none⟩) (cap - l') (fun hp=>by rw [if_neg AB]))
 have h1:=Di h (G4 ht hlo hhi hlh hh w)
 simp only [Option.map_some,add_lit,Nat.zero_add] at h1
 exact h1
theorem Own.U7 {α:Type}[Rep α] {w:World}{r:Nat}{t:TypeId}{F:Nat→Prop}{n c:Nat}{xs:List α}(h:Own w r t F n c xs):∃ cs,Box w r t cs∧cs.length=c * Rep.sz α:=by
 obtain ⟨cur,h1,h2⟩:=h.row
 exact ⟨cur.toList,by unfold Box; simpa using h1,by simpa using h2⟩
theorem Own.R1 {α:Type}[Rep α] {w w':World}{r:Nat}{t:TypeId}{F:Nat→Prop}{n c i:Nat}{xs:List α}{cs cs':List Value}(h:Own w r t F n c xs) (hx:Chg (one r) w w') (hB:Box w r t cs) (hB':Box w' r t cs') (hl:cs'.length=c * Rep.sz α) (hi:i< n)
 (hp:∀ p,p< (n - 1) * Rep.sz α→cs'[p]? = if p< i * Rep.sz α then cs[p]? else cs[p+Rep.sz α]?):Own w' r t F (n - 1) c (xs.take i++xs.drop (i+1)):=by
 have hn:=h.len
 have hle:=h.le
 have hcap:=h.cap
 unfold Box at hB hB'
 refine ⟨by rw [List.length_append,List.length_take,List.length_drop]; omega,by omega,hcap,⟨cs'.toArray,hB',by simpa using hl⟩,fun k x hk=>?_⟩
 have hfr:∀ b,b< w.heap.size→F b∧b≠r→(F b∧b≠r)∧w'.heap[b]? = w.heap[b]? := fun b hb hF=>⟨hF,hx.block b hb (fun e=>hF.2 e)⟩
 have hk2:k< (xs.take i++xs.drop (i+1)).length:=(List.getElem?_eq_some_iff.1 hk).1
 rw [List.length_append,List.length_take,List.length_drop] at hk2
 by_cases hki:k< i
 ·rw [List.getElem?_append_left (by rw [List.length_take]; omega),List.getElem?_take,if_pos hki] at hk
  obtain ⟨c1,g1,g2⟩:=h.elem k x hk
  refine ⟨c1,Rep.frame g1 hfr,fun u v hv=>?_⟩
  have h3:=g2 u v hv
  have hu:u< Rep.sz α:=by have:=(List.getElem?_eq_some_iff.1 hv).1; rw [Rep.len g1] at this; exact this
  have hm:k * Rep.sz α+Rep.sz α≤i * Rep.sz α:=by rw [← Nat.succ_mul]; exact Nat.mul_le_mul_right _ hki
  have hm2:i * Rep.sz α≤(n - 1) * Rep.sz α:=Nat.mul_le_mul_right _ AB
  rw [add_lit] at h3 ⊢
  simp only [World.cell?,hB] at h3
  simp only [World.cell?,hB']
  have:=hp (k * Rep.sz α+u) AB
  rw [if_pos AB] at this
  simpa [this] using h3
 ·rw [List.getElem?_append_right (by rw [List.length_take]; omega),List.length_take,Nat.min_eq_left AB,List.getElem?_drop] at hk
  rw [show i+1+(k - i)=k+1 by omega] at hk
  obtain ⟨c1,g1,g2⟩:=h.elem (k+1) x hk
  refine ⟨c1,Rep.frame g1 hfr,fun u v hv=>?_⟩
  have h3:=g2 u v hv
  have hu:u< Rep.sz α:=by have:=(List.getElem?_eq_some_iff.1 hv).1; rw [Rep.len g1] at this; exact this
  have hm:k * Rep.sz α+Rep.sz α≤(n - 1) * Rep.sz α:=by rw [← Nat.succ_mul]; exact Nat.mul_le_mul_right _ AB
  have hm2:i * Rep.sz α≤k * Rep.sz α:=Nat.mul_le_mul_right _ AB
  rw [add_lit] at h3 ⊢
  simp only [World.cell?,hB] at h3
  simp only [World.cell?,hB']
  have:=hp (k * Rep.sz α+u) AB
  rw [if_neg AB] at this
  rw [Nat.succ_mul,show k * Rep.sz α+Rep.sz α+u=k * Rep.sz α+u+Rep.sz α by omega] at h3
  simpa [this] using h3
theorem Lr {cs v1 v2:List Value}{n c i sz:Nat}(hl:cs.length=c * sz) (hi:i< n) (hn:n≤c) (h1:v1=(cs.drop ((i+1) * sz)).take ((n - (i+1)) * sz)) (h2:v2.length=sz) :
 (Az (Az cs (i * sz) v1) ((n - 1) * sz) v2).length=c * sz∧∀ p,p< (n - 1) * sz→(Az (Az cs (i * sz) v1) ((n - 1) * sz) v2)[p]? = if p< i * sz then cs[p]? else cs[p+sz]? := by
 have m1:(i+1) * sz+(n - (i+1)) * sz=n * sz:=by rw [← Nat.add_mul]; congr 1; omega
 have m2:(n - 1) * sz+sz=n * sz:=by rw [← Nat.succ_mul]; congr 1; omega
 have m3:n * sz≤c * sz:=Nat.mul_le_mul_right _ hn
 have m4:(i+1) * sz=i * sz+sz:=Nat.succ_mul _ _
 have l1:v1.length=(n - (i+1)) * sz:=by rw [h1,List.length_take,List.length_drop]; omega
 have l2:(Az cs (i * sz) v1).length=c * sz:=by rw [D1 AB]; exact hl
 refine ⟨by rw [D1 AB]; exact l2,fun p hp=>?_⟩
 unfold Az
 rw [List.append_assoc,List.getElem?_append_left (by rw [List.length_take]; unfold Az at l2; omega),List.getElem?_take,if_pos hp,List.append_assoc]
 by_cases hpi:p< i * sz
 ·rw [if_pos hpi,List.getElem?_append_left (by rw [List.length_take]; omega),List.getElem?_take,if_pos hpi]
 ·rw [if_neg hpi,List.getElem?_append_right (by rw [List.length_take]; omega),List.length_take,Nat.min_eq_left AB,List.getElem?_append_left AB,h1,List.getElem?_take,if_pos AB,List.getElem?_drop]
  congr 1
  omega
variable {w:World} {F:Nat→Prop}
theorem Tm {x:Prt}{cs:List Value}(h:Rep.rep w F x cs):∀ v∈cs,DP v=true:=Rep.flat h
theorem Own.DP {w:World}{r:Nat}{t:TypeId}{F:Nat→Prop}{n c i:Nat}{xs:List Prt}{cs:List Value}(h:Own w r t F n c xs) (hB:Box w r t cs):∀ v,i+(n - i)≤n→v∈(cs.drop (i * 2)).take ((n - i) * 2)→Go.Proofs.YtckdhcbbgmiccaaGreat.DP v=true:=by
 intro v hin hv
 obtain ⟨k,hk⟩:=List.mem_iff_getElem?.1 hv
 rw [List.getElem?_take] at hk
 split at hk
 ·rename_i hlt
  rw [List.getElem?_drop] at hk
  have hn:=h.len
  have hj:i+k / 2< xs.length:=by omega
  obtain ⟨c1,g1,g2⟩:=h.elem (i+k / 2) xs[i+k / 2] (AU hj)
  have hl:c1.length=2:=Rep.len g1
  have hk2:k % 2< c1.length:=by omega
  have h3:=g2 (k % 2) c1[k % 2] (AU hk2)
  have hz:Rep.sz Prt=2:=rfl
  unfold Box at hB
  rw [add_lit,hz] at h3
  simp only [World.cell?,hB] at h3
  have e:(i+k / 2) * 2+k % 2=i * 2+k:=by omega
  rw [e] at h3
  have h4:cs[i * 2+k]? = some c1[k % 2]:=by simpa using h3
  rw [hk] at h4
  cases h4
  exact Tm g1 _ (List.getElem_mem hk2)
 ·cases hk
theorem QN:∀ (is:List Int) (bs:List (List Row)) (o:Option Int),Bl o is bs=true→is.length=bs.length→∀ b∈bs,Bc b=true:=by
 intro is
 induction is with
 | nil =>
   intro bs o _ hl b hb
   cases bs with
   | nil=>cases hb
   | cons c cs=>simp at hl
 | cons i is ih =>
   intro bs o h hl b hb
   cases bs with
   | nil=>cases hb
   | cons c cs =>
     unfold Bl at h
     simp only [AW] at h
     rcases List.mem_cons.1 hb with rfl | hb
     ·exact h.1.2
     ·exact ih cs (some i) h.2 (by simpa using hl) b hb
theorem Fh {p:Prt}(h:At p=true) (id:Int):Bc (partOf p id)=true:=by
 rcases Ii id p.ids p.blocks with h1 | h1
 ·unfold partOf; rw [h1]; rfl
 ·unfold At at h
  simp only [AW,decide_eq_true_eq] at h
  exact QN p.ids p.blocks none h.2 h.1 _ h1
theorem Oh {id t:Int}:∀ (ps:List Prt) (o:List Row),(∀ p∈ps,PrtI p)→Blk o→((look t o).isSome=true∨∃ p∈ps,(look t (partOf p id)).isSome=true)→(look t (ps.foldl (Bo id) o)).isSome=true:=by
 intro ps
 induction ps with
 | nil =>
   rintro o _ _ (h | ⟨p,hp,_⟩)
   ·exact h
   ·cases hp
 | cons p ps ih =>
   intro o hI ho h
   have hp:Blk (partOf p id):=(hI p AD).of id
   refine ih _ (fun q hq=>hI q (by simp [hq])) (ho.merge hp) ?_
   have e:look t (Bo id o p)=(look t (partOf p id)).or (look t o):=Ce t o ho hp
   rcases h with h | ⟨q,hq,h⟩
   ·refine .inl ?_
    rw [e]
    cases look t (partOf p id) with
    | none=>exact h
    | some x=>rfl
   ·rcases List.mem_cons.1 hq with rfl | hq
    ·refine .inl ?_
     rw [e]
     obtain ⟨x,hx⟩:=Option.isSome_iff_exists.1 h
     rw [hx]; rfl
    ·exact .inr ⟨q,hq,h⟩
theorem IP {p:Prt}{n:Int}(h:Bh p n=true):∀ i∈p.ids,i≤n:=by
 unfold Bh at h
 simp only [AW] at h
 obtain ⟨h1,h2⟩:=h
 unfold At at h1
 simp only [AW,decide_eq_true_eq] at h1
 have key:∀ (is:List Int) (bs:List (List Row)) (o:Option Int),Bl o is bs=true→(∀ q,o=some q→∀ i∈is,q< i)∧∀ l,is.getLast? = some l→∀ i∈is,i≤l:=by
  intro is
  induction is with
  | nil=>intro bs o _; exact ⟨fun _ _ i hi=>(by cases hi),fun l hl=>(by simp at hl)⟩
  | cons x xs ih =>
    intro bs o hg
    cases bs with
    | nil=>simp [Bl] at hg
    | cons b bs =>
      simp only [Bl,AW] at hg
      obtain ⟨k1,k2⟩:=ih bs (some x) hg.2
      have hx:∀ q,o=some q→q< x:=fun q hq=>by
       have:=hg.1.1.1.2
       rw [hq] at this
       simpa using this
      refine ⟨fun q hq i hi=>?_,fun l hl i hi=>?_⟩
      ·rcases List.mem_cons.1 hi with rfl | hi
       ·exact hx q hq
       ·have:=k1 x rfl i hi; have:=hx q hq; omega
      ·cases hc:xs.getLast? with
       | none =>
         have:xs=[]:=List.getLast?_eq_none_iff.1 hc
         subst this
         simp at hl hi
         omega
       | some l2 =>
         have e:(x::xs).getLast? = some l2:=by rw [List.getLast?_cons,hc]; rfl
         rw [e] at hl
         cases hl
         rcases List.mem_cons.1 hi with rfl | hi
         ·have:=k1 i rfl l (List.mem_of_getLast? hc); omega
         ·exact k2 l hc i hi
 intro i hi
 cases hl:p.ids.getLast? with
 | none=>rw [hl] at h2; cases h2
 | some l =>
   rw [hl] at h2
   have:=(key p.ids p.blocks none h1.2).2 l hl i hi
   have h3:l≤n:=by simpa using h2
   omega
theorem JF {p:Prt}{id:Int}(h:∀ i∈p.ids,i< id):partOf p id=[]:=by
 have key:∀ (is:List Int) (bs:List (List Row)),(∀ i∈is,i< id)→BY id is bs=[]:=by
  intro is
  induction is with
  | nil=>intro bs _; unfold BY; rfl
  | cons i is ih =>
    intro bs h
    cases bs with
    | nil=>unfold BY; rfl
    | cons b bs =>
      unfold BY
      rw [if_neg (by have:=h i AD; simp; omega)]
      exact ih bs (fun j hj=>h j (by simp [hj]))
 exact key _ _ h
theorem Ku {s:Sto}(h:SD s) (hk:Ac s=true){x y:Prt}(hx:x∈s.parts) (hy:y∈s.parts):Bx x y=(BB x y,true):=by
 have hK:=StoK.of h hk
 have ox:=(hK.part x hx).2
 have oy:=(hK.part y hy).2
 unfold Bx
 rw [if_pos]
 refine ⟨ox,oy,?_⟩
 unfold okM
 rw [List.all_eq_true]
 intro i hi
 rw [List.mem_range] at hi
 have e1:BE x ((i:Int)+1)=partOf x ((i:Int)+1):=by unfold BE; rw [if_pos ox]
 have e2:BE y ((i:Int)+1)=partOf y ((i:Int)+1):=by unfold BE; rw [if_pos oy]
 rw [e1,e2]
 have b1:=Fh ox ((i:Int)+1)
 have b2:=Fh oy ((i:Int)+1)
 have hl:(BZ (partOf x ((i:Int)+1)) (partOf y ((i:Int)+1))).length≤24:=by
  unfold Ac at hk
  simp only [AW,decide_eq_true_eq,List.all_eq_true,List.mem_range,Ed] at hk
  by_cases hin:i< s.idx.names.length
  ·have bb:=(JZ b1).merge (JZ b2)
   have hP:Blk (s.parts.foldl (Bo ((i:Int)+1)) []):=Fg h.part Blk.nil
   refine Nat.le_trans (Ma bb (b:=rowsOf s ((i:Int)+1)) ?_ (fun t ht=>?_)) (hk.2 i hin)
   ·exact (D3 0 _ s.mem _ hK.row hP).2
   ·refine PR hK _ t (.inl (Oh s.parts [] h.part Blk.nil (.inr ?_)))
    rw [Ce t _ (JZ b1) (JZ b2)] at ht
    cases hc:look t (partOf y ((i:Int)+1)) with
    | some q=>exact ⟨y,hy,by rw [hc]; rfl⟩
    | none=>rw [hc] at ht; exact ⟨x,hx,ht⟩
  ·have g:=fun p hp=>JF (p:=p) (id:=(i:Int)+1) (fun j hj=>by have:=IP (hk.1.1.2 p hp) j hj; omega)
   rw [g x hx,g y hy]
   decide
 unfold Bz
 rw [if_pos ⟨b1,b2,by omega⟩]
theorem Kv {s:Sto}{i:Int}(_h:SD s) (hk:Ac s=true) (h1:inR i 0 ((s.parts.length:Int) - 2)=false):BL s i=(AZ s,false):=by
 rw [F5 hk]; exact KY h1
theorem Nf {s:Sto}{i:Int}{x y:Prt}(h:SD s) (hk:Ac s=true) (h1:inR i 0 ((s.parts.length:Int) - 2)=true) (hx:s.parts[i.toNat]? = some x) (hy:s.parts[(i+1).toNat]? = some y) :
 BL s i=(⟨(AZ s).idx,[]++(((AZ s).parts.set i.toNat (Bx x y).1).take (i.toNat+1)++((AZ s).parts.set i.toNat (Bx x y).1).drop (i.toNat+1+1)),(AZ s).mem⟩,true):=by
 have h2:=Bu h1
 have hx2:=(List.getElem?_eq_some_iff.1 hx).1
 rw [F5 hk]
 have e:=KZ (s:=AZ s) (a:=i) (x:=x) (y:=y) h1 hx hy
 rw [e,Ku h hk (AV hx) (AV hy)]
 have ep:(AZ s).parts=s.parts:=rfl
 rw [ep]
 have e2:(i+2).toNat=i.toNat+2:=by omega
 congr 2
 rw [e2,List.nil_append,List.nil_append,List.drop_zero,List.take_length]
 congr 1
 ·rw [List.take_add_one,List.take_set_of_le (Nat.le_refl _),List.getElem?_set_self (by exact hx2)]
  rfl
 ·rw [List.drop_set_of_lt AB]
end Go.Proofs.YtckdhcbbgmiccaaGreat
namespace Go.Proofs.YtckdhcbbgmiccaaGreat
set_option maxRecDepth 100000
set_option maxHeartbeats 4000000
variable {w:World} {F:Nat→Prop}
theorem Ju {r n c i:Nat}{xs:List Prt}{a b:Int}(ho:Own w r 66 F n c xs) (ha:a=(i:Int)) (hb:b=(i:Int)+1) (hi:i< n) (hn:n≤1000000):Calls Tryz.prog 68 [.slice (some ⟨r,0,none⟩) n c,.int .i64 a,.int .i64 b].toArray w (Al fun rv w'=>(rv=.slice (some ⟨r,0,none⟩) (n - 1) c∧Own w' r 66 F (n - 1) c (xs.take i++xs.drop (i+1)))∧Chg (one r) w w'):=by
 subst ha hb
 refine goT func68 ?_
 have hle:=ho.le
 obtain ⟨cs,hB,hl⟩:=ho.U7
 have hz:Rep.sz Prt=2:=rfl
 rw [hz] at hl
 refine .s<|.g<|.r 1<|.d<|.s<|.g<|.r 5<|RG.V3 (t:=29) (k:=.i64) (k2:=.i64) (k3:=.i64) (a:=some ⟨r,0,none⟩) (len:=n) (cap:=c) (i1:=(i:Int)) (i2:=(i:Int)+1) (i3:=(n:Int)) (sz:=2) i (i+1) n AA AA rfl AB rfl AB AB hle fun v_=>.d<|.s<|.s<|.g<|.r 2<|.eq (i:Int) ((i:Int)+1) (fun h=>absurd (show False by omega) id) fun _=>.d<|.cf<|.sk<|.s<|.g<|.r 3<|.d<|.s<|.gd (one r) 7 fun w1 hx1=>?_
 refine .r [0,1]<|GA.HG (i:=2) (t:=29) (r:=r) (o:=0) (len:=n) (cap:=c) (lo:=none) (hi:=some (vI (i:Int))) (sz:=2) 0 i AA AA AA (.inl ⟨rfl,rfl⟩) (.inr ⟨_,_,rfl,rfl⟩) AB AB AB<|.r [3,4]<|GA.V4 (i:=5) (t:=29) (r:=r) (len:=n) (cap:=c) (lo:=some (vI ((i:Int)+1))) (hi:=none) (sz:=2) (i+1) n AA AA AA (.inr ⟨_,_,rfl,by omega⟩) (.inl ⟨rfl,rfl⟩) AB AB fun a2 c2 h2=>?_
 refine .go 6<|GE.append (T:=29) (ty:=29) (args:=[.slice (some ⟨r,0,none⟩) i c,.slice a2 (n - (i+1)) c2]) AA fun w2 hx2=>?_
 have hx12:Ext w w2:=hx1.trans hx2
 have m1:(i+1) * 2+(n - (i+1)) * 2=n * 2:=by omega
 have hB2:=hB.ext hx12
 obtain ⟨w3,hr,hB3,hx3⟩:=Nc (P:=Tryz.prog) (T:=29) (ty:=29) (t:=66) (sz:=2) (i:=i) (c:=c) (m:=n - (i+1)) (c':=c2) (a2:=a2) (vs:=(cs.drop ((i+1) * 2)).take ((n - (i+1)) * 2)) AA hB2
  (fun hp=>⟨_,h2 hp,fun k u hu=>by
   rw [add_lit]
   unfold Box at hB2
   simp only [World.cell?,hB2]
   rw [List.getElem?_take] at hu
   split at hu
   ·rw [List.getElem?_drop] at hu
    simpa using hu
   ·cases hu⟩) (by rw [List.length_take,List.length_drop]; omega) AB (by rw [List.length_take,List.length_drop]; omega) (fun v hv=>ho.DP (i:=i+1) hB v AB hv)
 refine ⟨_,w3,hr,hx3,.d fun w4 hx4=>.r 1<|.d<|.s<|.g<|.r 4<|?_⟩
 have hB4:=hB3.ext hx4
 have hlen:i+(n - (i+1))=n - 1:=by omega
 rw [hlen]
 refine RG.HG (t:=29) (r:=r) (o:=0) (len:=n - 1) (cap:=c) (lo:=some (vI ((n - 1:Nat):Int))) (hi:=some (vI (n:Int))) (sz:=2) (n - 1) n AA AA (.inr ⟨_,_,rfl,rfl⟩) (.inr ⟨_,_,rfl,rfl⟩) AB AB AB ?_
 have h1:n - (n - 1)=1:=by omega
 rw [h1]
 have hl4:(Az cs (i * 2) ((cs.drop ((i+1) * 2)).take ((n - (i+1)) * 2))).length=c * 2:=by rw [D1 (by rw [List.length_take,List.length_drop]; omega)]; exact hl
 obtain ⟨vs,w5,hr5,hv5,hB5,hx5⟩:=Nd (P:=Tryz.prog) (T:=29) (ty:=0) (t:=66) (sz:=2) (o:=0+(n - 1) * 2) (c:=c - (n - 1)) AA hB4 AB
 rw [Nat.zero_add] at hB5
 have hd:=Lr (sz:=2) hl hi hle rfl hv5
 have hx:Chg (one r) w w5:=(((hx12.chg (S:=one r)).trans hx3).trans hx4.chg).trans hx5
 refine RG.clear (ats:=[29]) (ty:=0) (args:=[.slice (some ⟨r,0+(n - 1) * 2,none⟩) 1 (c - (n - 1))]) AA hr5<|.d<|.s<|.g<|.r 2<|.d<|.rt func68 results68 (.slice (some ⟨r,0,none⟩) (n - 1) c) ⟨⟨rfl,Own.R1 ho hx hB hB5 (by rw [hz]; exact hd.1) hi (by rw [hz]; exact hd.2)⟩,hx⟩
end Go.Proofs.YtckdhcbbgmiccaaGreat
namespace Go.Proofs.YtckdhcbbgmiccaaGreat
set_option maxRecDepth 100000
set_option maxHeartbeats 4000000
variable {w:World} {F:Nat→Prop} {a1 a2 a3 a4:Option Addr} {n1 c1 n2 c2 n3 c3 n4 c4:Nat}
set_option maxRecDepth 100000 in
set_option maxHeartbeats 4000000 in
theorem IQ (s:Sto) (at_:Int) (h1:RepS w F a1 n1 c1 s.idx.names) (h2:RepS w F a2 n2 c2 s.idx.AY) (h3:RepS w F a3 n3 c3 s.parts) (h4:RepS w F a4 n4 c4 s.mem) (p0:SD s):Calls Tryz.prog 31 [.agg #[.slice a1 n1 c1,.slice a2 n2 c2,.slice a3 n3 c3,.slice a4 n4 c4],.int .i64 at_].toArray w (Al fun rv w'=>(∃ v0,rv=.tuple #[v0,.bool ((BL s at_).2)]∧VS (fo F w.heap.size) w' ((BL s at_).1:Sto) v0)∧Ext w w'):=by
 refine goT func31 ?_
 obtain ⟨rfl,dY,h1⟩:=h1.tp
 obtain ⟨rfl,dZ,h2⟩:=h2.tp
 obtain ⟨rfl,d0,h3⟩:=h3.tp
 obtain ⟨rfl,d3,h4⟩:=h4.tp
 refine .s<|.g<|.np 32 [.slice a1 s.idx.names.length c1,.slice a2 s.idx.AY.length c2,.slice a3 s.parts.length c3,.slice a4 s.mem.length c4] fun ai fa bK bd ab cS=>?_
 replace ⟨h1,h2,h3,h4⟩:=(sn [] bd bK).g4 h1 h2 h3 h4
 have E:=bd
 refine .np 32 [AH,AH,AH,AH] fun ak dy aV bL ae cT=>?_
 have d4:=Ab aV ab.lt
 have d5:=E.cn aV
 replace ⟨h1,h2,h3,h4,ab,E⟩:=(sn [ai] bL aV).g6 h1 h2 h3 h4 ab E
 refine .r 1<|.d<|.s<|.s<|.g<|.ln ab<|.cl (DK s h1.ta h2.ta h3.ta h4.ta p0 (w:=dy) (F:=all)) ?_
 rintro fb b6 ⟨rfl,bM⟩
 replace ⟨h1,h2,h3,h4,ab,ae,E⟩:=(se [ak,ai] bM).g7 h1 h2 h3 h4 ab ae E
 cases d6:(Ac s)
 ·refine .r 1<|.d<|.ct<|.s<|.g<|.r 1<|.sc [AH,AH,AH,AH] ae fun fd bN cU cV=>?_
  replace ⟨h1,h2,h3,h4,ab,E⟩:=(so [ak,ai] bN).g6 h1 h2 h3 h4 ab E
  exact .r 1<|.d<|.r2 func31 results31 (.bx cU) (.t (.bool false)) ⟨⟨_,(Br rfl (AG (by rw [JE ‹_›]))),(VS.of (y:=(⟨(⟨([]:List (List Tag)),([]:List Pst)⟩:Idx),([]:List Prt),([]:List Smp)⟩:Sto)) ⟨_,rfl,⟨_,_,_,_,_,_,_,_,_,_,_,_,rfl,(RepS.BM _ _ none 0 AE),(RepS.BM _ _ none 0 AE),(RepS.BM _ _ none 0 AE),(RepS.BM _ _ none 0 AE)⟩⟩ (by rw [JE ‹_›]))⟩,E⟩
 refine .r 1<|.d<|.cf<|.sk<|.s<|.g<|.ln ab<|.cl (CP s h1.ta h2.ta h3.ta h4.ta p0.nm p0.nd p0.sz (w:=b6) (F:=all)) ?_
 rintro fe bg ⟨⟨b7,ff,b8,b9,fg,cd,al,aZ,cW,aj,ce,cg,rfl,af,ag,ah,aF,aa,aL,d7⟩,bh⟩
 have aM:=al2 ae.lt ab.lt
 have aW:Gb w.heap.size b6.heap.size:=E.size
 have bO:=CC aF ab.lt
 have d8:=CC aF ae.lt
 have bP:=FT aF E.size
 have d9:Cov nil w al:=KN aF E.size
 have bQ:=CC aL ab.lt
 have ec:=CC aL ae.lt
 have bR:=FT aL E.size
 have bS:Mv [ak,ai] [al,aj,ak,ai] b6 bg:=Mv.cons (Mv.cons (Mv.ext bh) aL) aF
 replace ⟨h3,ab,ae,E⟩:=(sp bS bh).g4 h3 ab ae E
 replace af:RepS bg (nin (ge w.heap.size) [al,aj,ak,ai]) _ _ _ _:=RepS.Ch (s0:=w.heap.size) (M:=[ak,ai]) af aM aW
 replace af:=af.base (G':=fo F w.heap.size) (fun _ _ h=>.inr h)
 have ee:=af.max
 replace ag:RepS bg (nin (ge w.heap.size) [al,aj,ak,ai]) _ _ _ _:=RepS.Ch (s0:=w.heap.size) (M:=[ak,ai]) ag aM aW
 replace ag:=ag.base (G':=fo F w.heap.size) (fun _ _ h=>.inr h)
 have eg:=ag.max
 replace ah:Own bg al 66 (nin (ge w.heap.size) [al,aj,ak,ai]) _ _ _:=Own.Ch (s0:=w.heap.size) (M:=[ak,ai]) ah aM aW
 replace ah:=ah.base (G':=fo F w.heap.size) (fun _ _ h=>.inr h)
 have eh:=ah.max
 have ej:=ah.len
 replace aa:Own bg aj 107 (nin (ge w.heap.size) [al,aj,ak,ai]) _ _ _:=Own.Ch (s0:=w.heap.size) (M:=[ak,ai]) aa aM aW
 replace aa:=aa.base (G':=fo F w.heap.size) (fun _ _ h=>.inr h)
 have cX:=af.len
 subst cX
 have cY:=ag.len
 subst cY
 refine .np 32 [AH,AH,AH,AH] fun am fi az bT cZ c7=>?_
 have eA:=Ab az ab.lt
 have eB:=Ab az ae.lt
 have c8:=Ab az ah.lt
 have ci:=Ab az aa.lt
 have dz:=E.cn az
 replace ⟨h3,ab,ae,af,ag,ah,aa,E⟩:=(sn [al,aj,ak,ai] bT az).g8 h3 ab ae af ag ah aa E
 refine .sc [.slice b7 (((((AZ s)).idx).names).length) b8,.slice b9 (((((AZ s)).idx).AY).length) cd,vS al aZ cW,vS aj ce cg] cZ fun da bi ac cj=>?_
 replace ⟨h3,ab,ae,af,ag,ah,aa,E⟩:=(so [am,al,aj,ak,ai] bi).g8 h3 ab ae af ag ah aa E
 refine .d<|.s<|.s<|.g<|.r 2<|.lb ab<|.r 1<|RG.int ((s.parts.length:Int) - 2) AA (by have:=p0.np; omega)<|.cl (Bm at_ 0 ((s.parts.length:Int) - 2) (w:=da) (F:=all)) ?_
 rintro eC aO ⟨rfl,bj⟩
 replace ⟨h3,ab,ae,af,ag,ah,aa,ac,E⟩:=(se [am,al,aj,ak,ai] bj).g9 h3 ab ae af ag ah aa ac E
 cases bk:(inR at_ 0 ((s.parts.length:Int) - 2))
 ·refine .r 1<|.d<|.ct<|.s<|.g<|.ln ac<|.sc [.slice b7 (((((AZ s)).idx).names).length) b8,.slice b9 (((((AZ s)).idx).AY).length) cd,vS al aZ cW,vS aj ce cg] ae fun bU bm ck cm=>?_
  replace ⟨h3,ab,af,ag,ah,aa,ac,E⟩:=(so [am,al,aj,ak,ai] bm).g8 h3 ab af ag ah aa ac E
  refine .r 1<|.d ?_
  have bn:=ah.sl (.inr bP)
  replace ⟨h3,af,ag,aa⟩:=(sd bU [am,al,aj,ak,ai] al).g4 h3 af ag aa
  have db:=aa.sl (.inr bR)
  replace ⟨h3,af,ag,bn⟩:=(sd bU [am,aj,ak,ai] aj).g4 h3 af ag bn
  exact .r2 func31 results31 (.bx ck) (.t (.bool false)) ⟨⟨_,(Br rfl (AG (by rw [Kv p0 ‹_› ‹_›]))),(VS.of (y:=(⟨(⟨(((AZ s)).idx).names,(((AZ s)).idx).AY⟩:Idx),((AZ s)).parts,((AZ s)).mem⟩:Sto)) ⟨_,rfl,⟨_,_,_,_,_,_,_,_,_,_,_,_,rfl,af.w1,ag.w1,bn.w1,db.w1⟩⟩ (by rw [Kv p0 ‹_› ‹_›]))⟩,E⟩
 have dB:=Bu bk
 refine .r 1<|.d<|.cf<|.sk<|.s ?_
 replace h3:=h3.Cl
 replace af:=af.Cl
 replace ag:=ag.Cl
 have bo:Gb (ai+1) aO.heap.size:=ab.lt
 have co:Cov (mtb [al,aj] aO.heap.size) aO al:=⟨.inl (.inl AI)⟩
 have cp:Gb (am+1) aO.heap.size:=ac.lt
 refine .gd (mtb [al,aj] aO.heap.size) 20 fun eD bq=>?_
 replace ⟨h3,ab,ae,af,ag,ah,aa,ac,E⟩:=(se [am,al,aj,ak,ai] bq).g9 h3 ab ae af ag ah aa ac E
 refine .r [0]<|.lb 1 ac (Cy (all_cons c8 (all_cons ci all_nil)) cp)<|.r [2,3]<|.lb 4 ab (Cy (all_cons (Nb.symm bO) (all_cons (Nb.symm bQ) all_nil)) bo)<|.r [5] ?_
 have br:at_.toNat< s.parts.length:=(by have q2:=Bu ‹_›; have q3:(AZ s).parts.length=s.parts.length:=rfl; omega)
 refine GA.idx (i:=6) (at_.toNat) (len:=s.parts.length) (z:=at_) (sz:=2) AA (by have q2:=Bu ‹_›; omega) br (h3.addr (Nat.zero_lt_of_lt br)) ?_
 obtain ⟨aA,aI⟩:∃ y,s.parts[at_.toNat]? = some y:=⟨_,AU (by have q2:=Bu ‹_›; omega)⟩
 have de:=AV aI
 obtain ⟨_,⟨eE,eF,eG,eH,eI,eJ,rfl,bt,bu⟩,cq⟩:=h3.elem (at_.toNat) aA aI
 have cr:=bt.len
 subst cr
 have cu:=bu.len
 subst cu
 refine .lg 7 0 cq (h3.nS (KM aI) (all_cons AJ (all_cons AK all_nil)))<|.r [8]<|.lb 9 ab (Cy (all_cons (Nb.symm bO) (all_cons (Nb.symm bQ) all_nil)) bo)<|.r [10]<|GA.int (i:=11) (at_+1) AA (by have:=p0.np; omega) ?_
 have bv:(at_+1).toNat< s.parts.length:=(by have q2:=Bu ‹_›; have q3:(AZ s).parts.length=s.parts.length:=rfl; omega)
 refine GA.idx (i:=12) ((at_+1).toNat) (len:=s.parts.length) (z:=at_+1) (sz:=2) AA (by have q2:=Bu ‹_›; omega) bv (h3.addr (Nat.zero_lt_of_lt bv)) ?_
 obtain ⟨aB,aJ⟩:∃ y,s.parts[(at_+1).toNat]? = some y:=⟨_,AU (by have q2:=Bu ‹_›; omega)⟩
 have df:=AV aJ
 obtain ⟨_,⟨eK,eL,eM,eN,eO,eP,rfl,bw,bz⟩,cw⟩:=h3.elem ((at_+1).toNat) aB aJ
 have cx:=bw.len
 subst cx
 have cy:=bz.len
 subst cy
 refine .lg 13 0 cw (h3.nS (KM aJ) (all_cons AJ (all_cons AK all_nil)))<|.go 14<|.cl (fun bA ay=>EJ aA aB (bt.ta.ext ay) (bu.ta.ext ay) (bw.ta.ext ay) (bz.ta.ext ay) (by exact (p0.part _ ‹_›).sz) (by exact (p0.part _ ‹_›).sz) (w:=bA) (F:=all)) ?_
 intro bA ay
 replace ⟨ab,ae,af,ag,ah,aa,ac,E⟩:=(se [am,al,aj,ak,ai] ay).g8 ab ae af ag ah aa ac E
 rintro eQ dh ⟨⟨eR,rfl,⟨_,rfl,⟨dj,eS,dm,dp,eT,dq,rfl,aC,aD⟩⟩⟩,aQ⟩
 have aR:=al5 ac.lt ah.lt aa.lt ae.lt ab.lt
 have bB:Gb w.heap.size bA.heap.size:=E.size
 have hkeep_:=aQ
 replace ⟨ab,ae,af,ag,ah,aa,ac,E⟩:=(se [am,al,aj,ak,ai] aQ).g8 ab ae af ag ah aa ac E
 refine ⟨Ext.chg hkeep_,?_⟩
 have aC:=aC.fr aR bB
 replace aC:=aC.base (G':=fo F w.heap.size) (fun _ _ h=>.inr h)
 have dI:=aC.max
 have aD:=aD.fr aR bB
 replace aD:=aD.base (G':=fo F w.heap.size) (fun _ _ h=>.inr h)
 have dJ:=aD.max
 have cz:=aC.len
 subst cz
 have cA:=aD.len
 subst cA
 refine .r [15,16,17] ?_
 have cB:at_.toNat< aZ:=(by have q2:=Bu ‹_›; have q3:(AZ s).parts.length=s.parts.length:=rfl; omega)
 refine GA.idx (i:=18) (b:=al) (o:=0) (at_.toNat) (len:=aZ) (z:=at_) (sz:=2) AA (by have q2:=Bu ‹_›; omega) cB rfl<|.go 19 ?_
 obtain ⟨aP,aK⟩:∃ y,(((AZ s)).parts)[at_.toNat]? = some y:=⟨_,AU (by have q2:=Bu ‹_›; omega)⟩
 obtain ⟨_,⟨bV,eU,bW,bX,eV,bY,rfl,aX,aY⟩,aS⟩:=ah.elem (at_.toNat) aP aK
 replace aX:=aX.Bi (fun _ _ h=>h.1)
 replace aY:=aY.Bi (fun _ _ h=>h.1)
 have cC:=aX.len
 subst cC
 have cD:=aY.len
 subst cD
 replace aS:Has dh ⟨al,0+(at_.toNat) * Rep.sz Prt,none⟩ [.slice bV aP.ids.length bW,.slice bX aP.blocks.length bY]:=by rw [Nat.zero_add]; exact aS
 refine GE.EE (t':=66) (q:=(at_.toNat)) (k:=0) (v:=.agg #[.slice dj ((Bx aA aB).1.ids.length) dm,.slice dp ((Bx aA aB).1.blocks.length) dq]) (cs:=[.slice bV aP.ids.length bW,.slice bX aP.blocks.length bY]) ((Bx aA aB).1) ah aK aS ⟨_,_,_,_,_,_,rfl,aC.oi,aD.oi⟩ AA AA AA fun eW bC=>?_
 replace ⟨ab,ae,af,ag,aa,ac,E⟩:=(se [am,al,aj,ak,ai] bC).g7 ab ae af ag aa ac E
 intro eX ax aT cE
 have hkeep_:=Chg.toS aT (Cov.toS co)
 replace ⟨ab,ae,af,ag,aa,ac,E⟩:=(so [am,al,aj,ak,ai] aT).g7 ab ae af ag aa ac E
 refine ⟨hkeep_,?_⟩
 refine .d fun eY bD=>?_
 replace ⟨ab,ae,af,ag,ax,aa,ac,E⟩:=(se [am,al,aj,ak,ai] bD).g8 ab ae af ag ax aa ac E
 replace af:=af.BK
 replace ag:=ag.BK
 refine .d<|.s<|.g<|.ns 0 66 [] fun aG du ao bE cF cG=>?_
 have cH:=Ab ao ab.lt
 have cI:=Ab ao ae.lt
 have dN:=Ab ao ax.lt
 have cJ:=Ab ao aa.lt
 have cK:=Ab ao ac.lt
 have cL:=BT ao E.size
 have dO:=E.cn ao
 replace ⟨ab,ae,af,ag,ax,aa,ac,E⟩:=(sn [am,al,aj,ak,ai] bE ao).g8 ab ae af ag ax aa ac E
 have aE:Own (α:=Prt) du aG 66 (nin (fo F w.heap.size) [aG,am,al,aj,ak,ai]) 0 0 []:=Own.BM cF
 refine .r 1<|.lb ac<|.r 1<|RG.int (at_+1) AA (by have:=p0.np; omega)<|.r 1<|RG.int (at_+2) AA (by have:=p0.np; omega) ?_
 have cM:=ax.len; rw [List.length_set] at cM
 refine .cl (Ju (i:=(at_.toNat+1)) (a:=at_+1) (b:=at_+2) ax (by have q2:=Bu ‹_›; omega) (by have q2:=Bu ‹_›; omega) (by have q2:=Bu ‹_›; have q3:(AZ s).parts.length=s.parts.length:=rfl; omega) (by have q2:=Bu ‹_›; have q3:(AZ s).parts.length=s.parts.length:=rfl; have q4:=p0.np; omega)) ?_
 rintro eZ dv ⟨⟨rfl,aU⟩,bF⟩
 replace ⟨ab,ae,af,ag,aa,ac,aE,E⟩:=(so [aG,am,al,aj,ak,ai] bF).g8 ab ae af ag aa ac aE E
 have dQ:=aU.len; have dR:=aU.max
 have dw:=aU.sl (.inr bP)
 replace ⟨af,ag,aa,aE⟩:=(sd dv [aG,am,al,aj,ak,ai] al).g4 af ag aa aE
 refine RG.O1 (T:=29) (ty:=29) aE dw AA AA (fun b _ h=>N8 AI h) (by have q1:=p0.np; have q2:(AZ s).parts.length=s.parts.length:=rfl; omega) fun aH bZ e7 aq ar bG=>?_
 have dS:=Bd ar cH ab.lt
 have dT:=Bd ar cI ae.lt
 have dU:=Bd ar cJ aa.lt
 have dV:=Bd ar cK ac.lt
 have cN:=EP ar cL E.size
 replace ⟨ae,af,ag,aa,ac,E⟩:=(sa [aG,am,aj,ak,ai] bG ar).g6 ae af ag aa ac E
 replace aq:=aq.rn aG
 refine .r 1<|.ss 2 (vS aH (0+(aZ - 1)) bZ) ac fun e8 bH cO cP=>?_
 replace ⟨ae,af,ag,aa,aq,E⟩:=(so [aH,am,aj,ak,ai] bH).g6 ae af ag aa aq E
 refine .d<|.s<|.g<|.ln cO<|.sc [.slice b7 (((((AZ s)).idx).names).length) b8,.slice b9 (((((AZ s)).idx).AY).length) cd,vS aH (0+(aZ - 1)) bZ,vS aj ce cg] ae fun b0 bI cQ cR=>?_
 replace ⟨af,ag,aa,aq,E⟩:=(so [aH,am,aj,ak,ai] bI).g5 af ag aa aq E
 refine .r 1<|.d ?_
 have bJ:=aq.sl (.inr cN)
 replace ⟨af,ag,aa⟩:=(sd b0 [aH,am,aj,ak,ai] aH).g3 af ag aa
 have dx:=aa.sl (.inr bR)
 replace ⟨af,ag,bJ⟩:=(sd b0 [am,aj,ak,ai] aj).g3 af ag bJ
 exact .r2 func31 results31 (.bx cQ) (.t (.bool true)) ⟨⟨_,(Br rfl (AG (by exact (congrArg Prod.snd (Nf p0 ‹_› ‹_› ‹_› ‹_›)).symm))),(VS.of (y:=(⟨(⟨(((AZ s)).idx).names,(((AZ s)).idx).AY⟩:Idx),([]++(((((AZ s)).parts).set (at_.toNat) ((Bx aA aB).1)).take (at_.toNat+1)++((((AZ s)).parts).set (at_.toNat) ((Bx aA aB).1)).drop ((at_.toNat+1)+1))),((AZ s)).mem⟩:Sto)) ⟨_,rfl,⟨_,_,_,_,_,_,_,_,_,_,_,_,rfl,af.w1,ag.w1,bJ.w1,dx.w1⟩⟩ (by exact (congrArg Prod.fst (Nf p0 ‹_› ‹_› ‹_› ‹_›)).symm))⟩,E⟩
end Go.Proofs.YtckdhcbbgmiccaaGreat
namespace Go.Proofs.YtckdhcbbgmiccaaGreat
theorem Ng:DR []=true:=by decide
theorem Ls {s:Sto}(h:SD s) (hk:Ac s=true){id:Int}{p:List Tag→Bool}(hid:id∈BF p 0 s.idx.names) (lo hi:Int):GQ (Ci s id) lo hi=LI (rowsOf s id) lo hi:=by
 have:=D4 hid
 rw [Rp hk this.1 this.2,JC h hk this.1 this.2]
def C7 (s:Sto) (f:List Cnd) (lo hi:Int) (i k:Nat):Prop:=((BF (Bs f) 0 s.idx.names).drop i).flatMap (Dh s lo hi)=(Bw s f lo hi).drop k
theorem C7.start {s:Sto}{f:List Cnd}{lo hi:Int}(h:SD s) (hk:Ac s=true):C7 s f lo hi 0 0:=by
 unfold C7
 rw [Ru h hk]
 rfl
theorem C7.skip {s:Sto}{f:List Cnd}{lo hi:Int}{i k:Nat}{id:Int}(h:C7 s f lo hi i k) (hs:SD s) (hk:Ac s=true) (hd:(BF (Bs f) 0 s.idx.names).drop i=id::(BF (Bs f) 0 s.idx.names).drop (i+1)) (hl:((GQ (Ci s id) lo hi).length:Int)=0):C7 s f lo hi (i+1) k:=by
 have hm:id∈BF (Bs f) 0 s.idx.names:=List.mem_of_mem_drop (by rw [hd]; simp)
 rw [Ls hs hk hm] at hl
 unfold C7 at h ⊢
 rw [hd,List.flatMap_cons] at h
 have e:Dh s lo hi id=[]:=by unfold Dh; rw [if_neg AB]
 rw [e,List.nil_append] at h
 exact h
theorem C7.hit {s:Sto}{f:List Cnd}{lo hi:Int}{i k:Nat}{id:Int}(h:C7 s f lo hi i k) (hs:SD s) (hk:Ac s=true) (hd:(BF (Bs f) 0 s.idx.names).drop i=id::(BF (Bs f) 0 s.idx.names).drop (i+1)) (hl:((GQ (Ci s id) lo hi).length:Int)≠0){n:List Tag}(hn:s.idx.names[(id - 1).toNat]? = some n) :
 (Bw s f lo hi)[k]? = some ⟨GK n,GQ (Ci s id) lo hi⟩∧C7 s f lo hi (i+1) (k+1):=by
 have hm:id∈BF (Bs f) 0 s.idx.names:=List.mem_of_mem_drop (by rw [hd]; simp)
 rw [Ls hs hk hm] at hl ⊢
 unfold C7 at h ⊢
 rw [hd,List.flatMap_cons] at h
 have e:Dh s lo hi id=[⟨GK n,LI (rowsOf s id) lo hi⟩]:=by
  unfold Dh
  rw [if_pos AB,List.getD_eq_getElem?_getD,hn,Kt (hs.nm.ok n (AV hn))]
  rfl
 rw [e,List.cons_append,List.nil_append] at h
 constructor
 ·have:=congrArg (fun l=>l[0]?) h
  simp only [List.getElem?_cons_zero,List.getElem?_drop,Nat.add_zero] at this
  exact this.symm
 ·have:=congrArg List.tail h
  rw [List.tail_cons,List.tail_drop] at this
  exact this
theorem C7.fin {s:Sto}{f:List Cnd}{lo hi:Int}{i k:Nat}(h:C7 s f lo hi i k) (hi2:(BF (Bs f) 0 s.idx.names).length≤i):(Bw s f lo hi).length≤k:=by
 unfold C7 at h
 rw [Aa hi2] at h
 have:=congrArg List.length h
 simp only [List.flatMap_nil,List.length_nil,List.length_drop] at this
 omega
theorem C7.no1 {s:Sto}{f:List Cnd}{lo hi:Int}{i k:Nat}{id:Int}(h:C7 s f lo hi i k) (hs:SD s) (hk:Ac s=true) (hd:(BF (Bs f) 0 s.idx.names).drop i=id::(BF (Bs f) 0 s.idx.names).drop (i+1)) (hl:((GQ (Ci s id) lo hi).length:Int)≠0) (hb:(k:Int)≥((Bw s f lo hi).length:Int)):False:=by
 have hm:id∈BF (Bs f) 0 s.idx.names:=List.mem_of_mem_drop (by rw [hd]; simp)
 have h2:=D4 hm
 obtain ⟨n,hn⟩:∃ n,s.idx.names[(id - 1).toNat]? = some n:=⟨_,AU AB⟩
 have h3:=(List.getElem?_eq_some_iff.1 (h.hit hs hk hd hl hn).1).1
 omega
theorem C7.no2 {s:Sto}{f:List Cnd}{lo hi:Int}{i k:Nat}{id:Int}(h:C7 s f lo hi i k) (hs:SD s) (hk:Ac s=true) (hd:(BF (Bs f) 0 s.idx.names).drop i=id::(BF (Bs f) 0 s.idx.names).drop (i+1)) (hl:((GQ (Ci s id) lo hi).length:Int)≠0){n:List Tag}(hn:s.idx.names[(id - 1).toNat]? = some n){b:Hit}(hb:(Bw s f lo hi)[k]? = some b)
 (hf:(b.name==GK n)=false∨(b.name != GK n)=true∨(b.rows==GQ (Ci s id) lo hi)=false):False:=by
 have h3:=(h.hit hs hk hd hl hn).1
 rw [hb] at h3
 simp only [Option.some.injEq] at h3
 subst h3
 rcases hf with hf | hf | hf <;> simp at hf
end Go.Proofs.YtckdhcbbgmiccaaGreat
namespace Go.Proofs.YtckdhcbbgmiccaaGreat
theorem QO {s:Sto}(h:SD s) (h1:(Bg s).2=true):(Bg s).1=Cv s∧Ac s=true∧s.mem≠[]∧s.parts.length< 6:=by
 cases hk:Ac s with
 | false=>rw [JB hk] at h1; cases h1
 | true =>
   by_cases hc:(s.mem.length:Int)=0∨(s.parts.length:Int)=6
   ·rw [Gq h hk hc] at h1; cases h1
   ·have h6:=Mc hk
    rw [IK h hk AB AB]
    refine ⟨?_,rfl,fun e=>?_,by omega⟩
    ·show (⟨(AZ s).idx,(AZ s).parts++[Ai s.mem],[]⟩:Sto)=Cv s
     rw [h.copy]
     rfl
    ·rw [e] at hc; simp at hc
theorem Kw {s x:Sto}{f:List Cnd}(hi:x.idx=s.idx) (hk:Ac s=Ac x) (hr:Ac s=true→∀ id:Int,1≤id→id≤s.idx.names.length→rowsOf x id=rowsOf s id) (lo hi2:Int):Bw x f lo hi2=Bw s f lo hi2:=by
 unfold Bw
 rw [← hk]
 cases hs:Ac s&&DR f with
 | false=>rfl
 | true =>
   simp only [AW] at hs
   rw [if_pos rfl,if_pos rfl]
   unfold NU
   rw [hi]
   have key:∀ (l:List Int),(∀ i∈l,1≤i∧i≤s.idx.names.length)→l.flatMap (Dh x lo hi2)=l.flatMap (Dh s lo hi2):=by
    intro l
    induction l with
    | nil=>intro _; rfl
    | cons i is ih =>
      intro h
      rw [List.flatMap_cons,List.flatMap_cons,ih (fun j hj=>h j (by simp [hj]))]
      have h1:=h i AD
      unfold Dh
      rw [hr hs.1 i h1.1 h1.2,hi]
   exact key _ (fun i hi=>D4 hi)
end Go.Proofs.YtckdhcbbgmiccaaGreat
namespace Go.Proofs.YtckdhcbbgmiccaaGreat
theorem Lu (a b:Prt){id:Int}(h1:1≤id) (h2:id≤6):partOf (BB a b) id=BZ (partOf a id) (partOf b id):=by
 unfold BB
 rw [NR _ h1,List.getD_eq_getElem?_getD]
 unfold BR
 rw [List.getElem?_map,List.getElem?_range AB]
 simp only [Option.map_some,Option.getD_some]
 rw [show (((id - 1).toNat:Nat):Int)+1=id by omega]
def CA (s:Sto) (k:Nat):Sto:=⟨s.idx,Fx s.parts k,s.mem⟩
theorem IS {s:Sto}{i:Int}(h:SD s) (h1:(BL s i).2=true):Ac s=true∧0≤i∧i+2≤s.parts.length∧(BL s i).1=CA s i.toNat:=by
 cases hk:Ac s with
 | false=>rw [JE hk] at h1; cases h1
 | true =>
   cases hr:inR i 0 ((s.parts.length:Int) - 2) with
   | false=>rw [Kv h hk hr] at h1; cases h1
   | true =>
     have h2:=Bu hr
     refine ⟨rfl,h2.1,by omega,?_⟩
     rw [F5 hk,h.copy]
     unfold BC
     rw [if_pos hr]
     rfl
theorem Eo {s:Sto}{k:Nat}(hk:k+2≤s.parts.length):∃ x y,s.parts[k]? = some x∧s.parts[k+1]? = some y∧(CA s k).parts=s.parts.take k++[BB x y]++s.parts.drop (k+2):=by
 refine ⟨_,_,AU AB,AU AB,?_⟩
 exact G6 (AU AB) (AU AB)
theorem EU {s:Sto}(h:StoK s){k:Nat}(hk:k+2≤s.parts.length){id:Int}(h1:1≤id) (h2:id≤6):(CA s k).parts.foldl (Bo id) []=s.parts.foldl (Bo id) []∧rowsOf (CA s k) id=rowsOf s id:=by
 obtain ⟨x,y,hx,hy,e⟩:=Eo hk
 have key:(CA s k).parts.foldl (Bo id) []=s.parts.foldl (Bo id) []:=by
  have hs:s.parts=s.parts.take k++[x,y]++s.parts.drop (k+2):=by
   have e1:=List.take_append_drop k s.parts
   rw [Be hx,Be hy] at e1
   rw [List.append_assoc]
   exact e1.symm
  rw [e]
  conv=>rhs; rw [hs]
  simp only [List.foldl_append,List.foldl_cons,List.foldl_nil]
  congr 1
  have px:=h.sd.part x (AV hx)
  have py:=h.sd.part y (AV hy)
  have ho:Blk ((s.parts.take k).foldl (Bo id) []):=Fg (fun p hp=>h.sd.part p (List.mem_of_mem_take hp)) Blk.nil
  unfold Bo
  rw [Lu x y h1 h2]
  exact (Mb ho (px.of id) (py.of id)).symm
 refine ⟨key,?_⟩
 unfold rowsOf
 rw [key]
 rfl
theorem Oi {p:Prt}{n:Int}(h:Bh p n=true):∃ id:Int,1≤id∧id≤6∧id≤n∧0< (partOf p id).length:=by
 have hle:=IP h
 unfold Bh at h
 simp only [AW] at h
 obtain ⟨h1,h2⟩:=h
 unfold At at h1
 simp only [AW,decide_eq_true_eq] at h1
 obtain ⟨h3,h4⟩:=h1
 unfold partOf
 cases hi:p.ids with
 | nil=>rw [hi] at h2; simp at h2
 | cons i is =>
   cases hb:p.blocks with
   | nil=>rw [hi,hb] at h3; simp at h3
   | cons b bs =>
     rw [hi,hb] at h4
     unfold Bl at h4
     simp only [AW,decide_eq_true_eq] at h4
     have h5:=Bu h4.1.1.1.1
     refine ⟨i,h5.1,h5.2,hle i (by rw [hi]; simp),?_⟩
     unfold BY
     rw [if_pos AD]
     exact h4.1.1.2
theorem Nh {s:Sto}(h:SD s) (hk:Ac s=true){x y:Prt}(hx:x∈s.parts) (hy:y∈s.parts){id:Int}(h1:1≤id) (h2:id≤6):Blk (BZ (partOf x id) (partOf y id))∧(BZ (partOf x id) (partOf y id)).length≤24:=by
 have e:=Ku h hk hx hy
 unfold Bx at e
 split at e
 ·rename_i hc
  obtain ⟨ox,oy,hm⟩:=hc
  unfold okM at hm
  rw [List.all_eq_true] at hm
  have:=hm (id - 1).toNat (by rw [List.mem_range]; omega)
  rw [show (((id - 1).toNat:Nat):Int)+1=id by omega] at this
  have e1:BE x id=partOf x id:=by unfold BE; rw [if_pos ox]
  have e2:BE y id=partOf y id:=by unfold BE; rw [if_pos oy]
  rw [e1,e2] at this
  refine ⟨(JZ (Fh ox id)).merge (JZ (Fh oy id)),?_⟩
  unfold Bz at this
  split at this
  ·rename_i hc; have:=hc.2.2; omega
  ·cases this
 ·exact absurd (congrArg Prod.snd e) AD
theorem Fi {s:Sto}(h:SD s) (hk:Ac s=true){k:Nat}(hl:k+2≤s.parts.length):Ac (CA s k)=true:=by
 have hK:=StoK.of h hk
 obtain ⟨x,y,hx,hy,e⟩:=Eo hl
 have mx:=AV hx
 have my:=AV hy
 have hn:=h.nm.len
 have hk2:=hk
 unfold Ac at hk2 ⊢
 simp only [AW,decide_eq_true_eq,List.all_eq_true,List.mem_range,Ed] at hk2 ⊢
 obtain ⟨⟨⟨⟨a1,a2⟩,a3⟩,a4⟩,a5⟩:=hk2
 refine ⟨⟨⟨⟨?_,a2⟩,fun p hp=>?_⟩,a4⟩,fun i hi=>?_⟩
 ·rw [e]
  simp only [List.length_append,List.length_take,List.length_drop,List.length_cons,List.length_nil]
  omega
 ·rw [e] at hp
  simp only [List.mem_append,List.mem_cons,List.not_mem_nil,or_false] at hp
  rcases hp with (hp | rfl) | hp
  ·exact a3 p (List.mem_of_mem_take hp)
  ·show Bh (Dv (BR x y 6)) s.idx.names.length=true
   have hblk:∀ (i:Nat) b,(BR x y 6)[i]? = some b→i< 6∧b=BZ (partOf x ((i:Int)+1)) (partOf y ((i:Int)+1)):=fun i b hb=>by
    unfold BR at hb
    rw [List.getElem?_map] at hb
    by_cases hi:i< 6
    ·rw [List.getElem?_range hi] at hb
     simp only [Option.map_some,Option.some.injEq] at hb
     exact ⟨hi,hb.symm⟩
    ·rw [List.getElem?_eq_none (by simp; omega)] at hb
     cases hb
   refine NT (fun b hb=>?_) (by rw [Dl]; omega) ?_ (fun i b hb hp=>?_)
   ·obtain ⟨i,hi⟩:=List.mem_iff_getElem?.1 hb
    obtain ⟨h6,rfl⟩:=hblk i b hi
    exact Nh h hk mx my AB AB
   ·obtain ⟨id,g1,g2,_,g4⟩:=Oi (a3 x mx)
    refine ⟨BZ (partOf x id) (partOf y id),?_,?_⟩
    ·unfold BR
     refine List.mem_map.2 ⟨(id - 1).toNat,by simp; omega,?_⟩
     rw [show (((id - 1).toNat:Nat):Int)+1=id by omega]
    ·have bx:=(h.part x mx).of id
     have by':=(h.part y my).of id
     have:=Ma bx (bx.merge by') (fun t ht=>by
      rw [Ce t _ bx by']
      cases look t (partOf y id) with
      | none=>exact ht
      | some q=>rfl)
     omega
   ·obtain ⟨h6,rfl⟩:=hblk i b hb
    by_cases hin:i< s.idx.names.length
    ·exact hin
    ·rw [JF (p:=x) (fun j hj=>by have:=IP (a3 x mx) j hj; omega),JF (p:=y) (fun j hj=>by have:=IP (a3 y my) j hj; omega)] at hp
     exact absurd hp AE
  ·exact a3 p (List.mem_of_mem_drop hp)
 ·rw [(EU hK hl AB (by have:i< s.idx.names.length:=hi; omega)).2]
  exact a5 i hi
theorem QP {s:Sto}(h:SD s){k:Nat}(hl:k+2≤s.parts.length):SD (CA s k):=by
 obtain ⟨x,y,hx,hy,e⟩:=Eo hl
 refine ⟨h.idx,h.nm,h.nd,?_,fun p hp=>?_,h.nm2,h.mem⟩
 ·have:=h.np
  rw [e]
  simp only [List.length_append,List.length_take,List.length_drop,List.length_cons,List.length_nil]
  omega
 ·rw [e] at hp
  simp only [List.mem_append,List.mem_cons,List.not_mem_nil,or_false] at hp
  rcases hp with (hp | rfl) | hp
  ·exact h.part p (List.mem_of_mem_take hp)
  ·exact (h.part x (AV hx)).merge (h.part y (AV hy))
  ·exact h.part p (List.mem_of_mem_drop hp)
section
variable {s:Sto} {i:Int}
theorem R2 (h:SD s) (h1:(BL s i).2=true):SD (BL s i).1:=by
 obtain ⟨_,h2,h3,e⟩:=IS h h1
 rw [e]
 exact QP h AB
theorem Oj (h:SD s) (h1:(BL s i).2=true):Bw (BL s i).1 [] 0 99=Bw s [] 0 99∧Ac (BL s i).1=true:=by
 obtain ⟨hk,h2,h3,e⟩:=IS h h1
 have h5:=Fi h hk (k:=i.toNat) AB
 rw [e]
 exact ⟨Kw (x:=CA s i.toNat) (s:=s) rfl (hk.trans h5.symm) (fun _ id a b=>(EU (StoK.of h hk) AB a (by have:=h.nm.len; omega)).2) _ _,h5⟩
theorem QQ (h:SD s) (h1:(BL s i).2=true):(BL s i).1.parts.length+1=s.parts.length∧0≤i∧i+2≤s.parts.length∧i+1≤(BL s i).1.parts.length:=by
 obtain ⟨hk,h2,h3,e⟩:=IS h h1
 obtain ⟨x,y,hx,hy,e2⟩:=Eo (s:=s) (k:=i.toNat) AB
 rw [e,e2]
 simp only [List.length_append,List.length_take,List.length_drop,List.length_cons,List.length_nil]
 omega
end
end Go.Proofs.YtckdhcbbgmiccaaGreat
namespace Go.Proofs.YtckdhcbbgmiccaaGreat
theorem R3 (v:Int):∀ (l:List Int) (i:Nat),l.contains v=decide (EG v i l≥0):=by
 intro l
 induction l with
 | nil=>intro i; simp [EG]
 | cons x xs ih =>
   intro i
   have:=ih (i+1)
   have e:EG v i (x::xs)=if x==v then (i:Int) else EG v (i+1) xs:=rfl
   rw [e,List.contains_cons,this]
   by_cases h:x=v
   ·subst h; simp
   ·have h1:(x==v)=false:=beq_eq_false_iff_ne.2 h
    have h2:(v==x)=false:=beq_eq_false_iff_ne.2 (fun e=>h e.symm)
    rw [h1,h2]
    simp
def DY (nx:Int):Option Int→List Fil→Bool
 | _,[]=>true
 | o,f::fs=>inR f.num 1 (nx - 1)&&(match o with | some q=>decide (q< f.num) | none=>true)&&At f.part&&DY nx (some f.num) fs
def Ds (d:Dsk):Bool:=d.list.all (fun n=>decide (0≤As d n))&&decide d.list.Nodup
def Ax (d:Dsk):Bool:=inR d.next 1 999&&decide (d.files.length≤20)&&decide (d.list.length≤6)&&DY d.next none d.files&&Ds d&&(nmB d.names&&Ac (Ao d))
structure DD (d:Dsk):Prop where
 g:NmG d.names
 nl:d.list.length≤7
 nf:d.files.length≤20
 file:∀ f∈d.files,PrtI f.part
 next:0≤d.next∧d.next≤999
theorem DD.part {d:Dsk}(h:DD d) (n:Int):PrtI (Au d n):=by
 unfold Au
 rw [List.getD_eq_getElem?_getD]
 cases hx:d.files[(As d n).toNat]? with
 | none=>exact PrtI.nil
 | some f=>exact h.file f (AV hx)
theorem DD.sg {d:Dsk}(h:DD d):SG (Ao d):=by
 refine ⟨⟨h.g,fun _=>rfl⟩,by simp [Ao]; exact h.nl,fun p hp=>?_,by simp [Ao],by simp [Ao]⟩
 simp only [Ao,List.mem_map] at hp
 obtain ⟨n,_,rfl⟩:=hp
 exact h.part n
def Jv (fs:List Fil) (k:Nat):Option Int:=prev (fs.map Fil.num) k
theorem Ni {nx:Int}{fs:List Fil}{k:Nat}{f:Fil}{b:Bool}(h:DY nx (Jv fs k) (fs.drop k)=b) (hd:fs.drop k=f::fs.drop (k+1)) (hf:fs[k]? = some f) (h1:inR f.num 1 (nx - 1)=true) (h2:k=0∨∃ q,fs[k - 1]? = some q∧¬ q.num≥f.num) (h3:At f.part=true):DY nx (Jv fs (k+1)) (fs.drop (k+1))=b:=by
 rw [hd] at h
 unfold DY at h
 have e:Jv fs (k+1)=some f.num:=by unfold Jv; rw [Pq,List.getElem?_map,hf]; rfl
 have e2:(match Jv fs k with | some q=>decide (q< f.num) | none=>true)=true:=by
  rcases h2 with rfl | ⟨q,hq,hlt⟩
  ·rfl
  ·by_cases hk:k=0
   ·subst hk; rfl
   ·have:Jv fs k=some q.num:=by unfold Jv; rw [M4 _ _ AB,List.getElem?_map,hq]; rfl
    rw [this]
    simp
    omega
 rw [h1,h3,e2] at h
 rw [e]
 simpa using h
theorem Me {nx:Int}{fs:List Fil}{k:Nat}{f:Fil}{b:Bool}(h:DY nx (Jv fs k) (fs.drop k)=b) (hd:fs.drop k=f::fs.drop (k+1)) (h1:inR f.num 1 (nx - 1)=false∨(0< k∧∃ q,fs[k - 1]? = some q∧q.num≥f.num)∨At f.part=false):b=false:=by
 rw [hd] at h
 unfold DY at h
 rw [← h]
 rcases h1 with h1 | ⟨hk,q,hq,hge⟩ | h1
 ·rw [h1]; simp
 ·have:Jv fs k=some q.num:=by unfold Jv; rw [M4 _ _ AB,List.getElem?_map,hq]; rfl
  have e2:decide (q.num< f.num)=false:=decide_eq_false AB
  rw [this]
  simp only [e2]
  simp
 ·rw [h1]; simp
theorem Tn {nx:Int}{fs:List Fil}{k:Nat}{b:Bool}(h:DY nx (Jv fs k) (fs.drop k)=b) (hk:fs.length≤k):b=true:=by
 rw [Aa hk] at h
 exact h.symm
def R4 (d:Dsk) (k:Nat):Prop:=∀ j n,j< k→d.list[j]? = some n→0≤As d n∧n∉d.list.take j
theorem U8 (d:Dsk):R4 d 0:=fun j _ h=>absurd h AB
def fresh (d:Dsk) (n:Int) (k:Nat):Prop:=n∉d.list.take k
theorem R5 {d:Dsk}{n:Int}{k:Nat}(h:((d.list.take k).drop 0).contains n=false):fresh d n k:=by
 unfold fresh
 rw [List.drop_zero] at h
 intro hm
 rw [List.contains_iff_mem.2 hm] at h
 cases h
theorem QR {d:Dsk}{k j:Nat}{n:Int}(h:R4 d k) (hn:d.list[k]? = some n) (h1:¬ As d n< 0) (h2:fresh d n j) (hj:k≤j):R4 d (k+1):=fun i m hi hm=>by
 by_cases e:i=k
 ·subst e
  rw [hn] at hm
  cases hm
  refine ⟨by omega,fun hmem=>h2 ?_⟩
  obtain ⟨a,ha⟩:=List.mem_iff_getElem?.1 hmem
  rw [List.getElem?_take] at ha
  split at ha
  ·exact List.mem_iff_getElem?.2 ⟨a,by rw [List.getElem?_take,if_pos AB]; exact ha⟩
  ·cases ha
 ·exact h i m AB hm
theorem Nj {d:Dsk}{k:Nat}(h:R4 d k) (hk:d.list.length≤k):Ds d=true:=by
 unfold Ds
 rw [AW,List.all_eq_true,decide_eq_true_eq]
 refine ⟨fun n hn=>?_,?_⟩
 ·obtain ⟨j,hj⟩:=List.mem_iff_getElem?.1 hn
  have:=(h j n (by have:=(List.getElem?_eq_some_iff.1 hj).1; omega) hj).1
  simpa using this
 ·unfold List.Nodup
  rw [List.pairwise_iff_getElem]
  intro i j hi hj hij e
  refine (h j d.list[j] AB (AU hj)).2 ?_
  rw [← e]
  exact List.mem_iff_getElem?.2 ⟨i,by rw [List.getElem?_take,if_pos hij]; exact AU hi⟩
theorem U9 {d:Dsk}{k:Nat}{n:Int}(hn:d.list[k]? = some n) (h:As d n< 0):Ds d=false:=by
 cases hb:Ds d with
 | false=>rfl
 | true =>
   unfold Ds at hb
   rw [AW,List.all_eq_true] at hb
   have:=hb.1 n (AV hn)
   simp at this
   omega
theorem VA {d:Dsk}{k:Nat}{n:Int}(hn:d.list[k]? = some n) (h:n∈d.list.take k):Ds d=false:=by
 cases hb:Ds d with
 | false=>rfl
 | true =>
   unfold Ds at hb
   rw [AW,decide_eq_true_eq] at hb
   obtain ⟨i,hi⟩:=List.mem_iff_getElem?.1 h
   rw [List.getElem?_take] at hi
   split at hi
   ·rename_i hik
    have hd:=hb.2
    unfold List.Nodup at hd
    rw [List.pairwise_iff_getElem] at hd
    obtain ⟨a1,a2⟩:=List.getElem?_eq_some_iff.1 hi
    obtain ⟨b1,b2⟩:=List.getElem?_eq_some_iff.1 hn
    exact absurd (a2.trans b2.symm) (hd i k a1 b1 hik)
   ·cases hi
theorem EV {d:Dsk}(h:Ds d=true):∀ n∈d.list,0≤As d n:=fun n hn=>by
 unfold Ds at h
 rw [AW,List.all_eq_true] at h
 have:=h.1 n hn
 simpa using this
theorem VB {d:Dsk}{k:Nat}{n:Int}(hn:d.list[k]? = some n) (h:((d.list.take k).drop 0).contains n=true):Ds d=false:=by
 rw [List.drop_zero] at h
 exact VA hn (List.contains_iff_mem.1 h)
section
variable {d:Dsk}
theorem VC (h:inR d.next 1 999=false∨(d.files.length:Int) > 20∨(d.list.length:Int) > 6∨(d.names.length:Int) > 6):Ax d=false:=by
 unfold Ax
 rcases h with h | h | h | h
 ·rw [h]; simp
 ·rw [decide_eq_false (p:=d.files.length≤20) AB]; simp
 ·rw [decide_eq_false (p:=d.list.length≤6) AB]; simp
 ·rw [← TU h]; simp
theorem To (h:DY d.next none d.files=false):Ax d=false:=by unfold Ax; rw [h]; simp
theorem V5 (h:Ds d=false):Ax d=false:=by unfold Ax; rw [h]; simp
theorem Wc (h1:inR d.next 1 999=true) (h2:¬ (d.files.length:Int) > 20) (h3:¬ (d.list.length:Int) > 6) (h5:DY d.next none d.files=true) (h6:Ds d=true):Ax d=(nmB d.names&&Ac (Ao d)):=by
 unfold Ax
 rw [h1,h5,h6,decide_eq_true AB,decide_eq_true AB]
 simp
theorem Wd {y:Sto}(h1:inR d.next 1 999=true) (h2:¬ (d.files.length:Int) > 20) (h3:¬ (d.list.length:Int) > 6) (h5:DY d.next none d.files=true) (h6:Ds d=true) (hd:NsD d.names) (hy:y.idx.names=d.names∧(NmI d.names→NsD d.names→y=Ao d)):(nmB y.idx.names&&Ac y)=Ax d:=by
 rw [Wc h1 h2 h3 h5 h6,hy.1]
 cases hb:nmB d.names with
 | false=>rfl
 | true=>rw [hy.2 (D2.1 hb) hd]
theorem Fj (h:Ax d=true):NmI d.names∧Ac (Ao d)=true∧Ds d=true:=by
 unfold Ax at h
 simp only [AW] at h
 exact ⟨D2.1 h.2.1,h.2.2,h.1.2⟩
theorem DD.sd (h:DD d) (hk:Ax d=true):SD (Ao d):=by
 obtain ⟨h1,h2,_⟩:=Fj hk
 have h3:=Mc h2
 exact h.sg.sd (D2.2 h1) h3
def Cf (d:Dsk):Sto:=if Ax d then Ao d else ⟨⟨[],[]⟩,[],[]⟩
theorem Tp (h:Ax d=false):Cf d=⟨⟨[],[]⟩,[],[]⟩:=by unfold Cf; rw [if_neg (by simp [h])]
theorem KD (h:Ax d=true):Cf d=Ao d:=by unfold Cf; rw [if_pos h]
end
theorem QS {d:Dsk}{l:List Int}{i:Nat}{n:Int}{k Y:List Prt}{f:Fil}(h:k++(l.drop i).map (Au d)=Y) (hd:l.drop i=n::l.drop (i+1)) (hf:d.files[(As d n).toNat]? = some f):(k++[f.part])++(l.drop (i+1)).map (Au d)=Y:=by
 rw [hd,List.map_cons] at h
 rw [← h]
 have:Au d n=f.part:=by unfold Au; rw [List.getD_eq_getElem?_getD,hf]; rfl
 rw [this]
 simp
theorem R6 {d:Dsk}{l:List Int}{i:Nat}{k Y:List Prt}(h:k++(l.drop i).map (Au d)=Y) (hi:l.length≤i):k=Y:=by
 rw [Aa hi] at h
 simpa using h
theorem G9 {d:Dsk}{n:Int}(h:0≤As d n):(As d n).toNat< d.files.length∧As d n=((As d n).toNat:Int):=by
 have:=(J5 n d.files 0).1
 unfold As at h ⊢
 omega
def D6 (d:Dsk) (y:Sto):Prop:=y.idx.names=d.names∧y.parts=(Ao d).parts∧y.mem=[]∧(NmI d.names→NsD d.names→y=Ao d)
theorem D6.mk {d:Dsk}{a:List (List Tag)}{b:List Pst}{c:List Prt}{e:List Smp}(h1:a=d.names) (h2:c=d.list.map (Au d)) (h3:e=[]) (h4:NmI d.names→NsD d.names→(⟨a,b⟩:Idx)=idxOf d.names):D6 d ⟨⟨a,b⟩,c,e⟩:=by
 subst h2 h3
 refine ⟨h1,rfl,rfl,fun x y=>?_⟩
 unfold Ao
 rw [h4 x y]
theorem D6.sg {d:Dsk}{y:Sto}(q:D6 d y) (h:DD d):SG y:=by
 obtain ⟨q1,q2,q3,q4⟩:=q
 refine ⟨⟨by rw [q1]; exact h.g,fun hn=>?_⟩,by rw [q2]; exact h.sg.np,fun p hp=>h.sg.part p (by rw [← q2]; exact hp),by rw [q3]; simp,by rw [q3]; simp⟩
 rw [q1] at hn ⊢
 have:=q4 hn h.g.nd
 rw [this]
 rfl
theorem D6.eq {d:Dsk}{y:Sto}(q:D6 d y) (h:DD d) (hk:Ax d=true):y=Cf d:=by rw [KD hk]; exact q.2.2.2 (Fj hk).1 h.g.nd
theorem D6.dk {d:Dsk}{y:Sto}(hy:D6 d y) (h:DD d) (h1:inR d.next 1 999=true) (h2:¬ (d.files.length:Int) > 20) (h3:¬ (d.list.length:Int) > 6) (h5:DY d.next none d.files=true) (h6:Ds d=true):(nmB y.idx.names&&Ac y)=Ax d:=Wd h1 h2 h3 h5 h6 h.g.nd ⟨hy.1,hy.2.2.2⟩
end Go.Proofs.YtckdhcbbgmiccaaGreat
namespace Go.Proofs.YtckdhcbbgmiccaaGreat
set_option maxRecDepth 100000
set_option maxHeartbeats 4000000
variable {w:World} {F:Nat→Prop} {a1 a2 a3:Option Addr} {n1 c1 n2 c2 n3 c3:Nat}
theorem Hk (f:Fil) (num:Int) (h1:RepS w F a1 n1 c1 f.part.ids) (h2:RepS w F a2 n2 c2 f.part.blocks){bq_num:Nat}(hb_num:Box w bq_num 3 [.int .i64 num])  : Calls Tryz.prog 121 [.agg #[.int .i64 f.num,.slice a1 n1 c1,.slice a2 n2 c2],.pointer (some ⟨bq_num,0,none⟩)].toArray w (Al fun rv w'=>rv=.bool ((f.num==num))∧Ext w w'):=by
 cases h1.len
 cases h2.len
 refine goT func121 ?_
 have Z:=(((St.i0 F w).p h1).p h2).pb' hb_num
 exact .s<|.g<|RG.Np Z fun ab w Z=>.r 1<|.d<|.s<|.g<|.r 1<|RG.Lb 0 Z<|RG.Lh 0 0 Z<|.r 2<|.d<|T.rt func121 results121 (.bool (f.num==num)) ⟨(AG AF),Z.xt⟩
theorem IT (s:List Fil) (num:Int) (h1:RepS w F a1 n1 c1 s){bq_num:Nat}(hb_num:Box w bq_num 3 [.int .i64 num])  : Calls Tryz.prog 120 [.slice a1 n1 c1,.func (.func 121) #[] #[.pointer (some ⟨bq_num,0,none⟩)]].toArray w (Al fun rv w'=>rv=.int .i64 (DA num 0 s)∧Ext w w'):=by
 refine goT func120 ?_
 obtain ⟨rfl,ax,h1⟩:=h1.tp
 refine .s<|.g<|.r 1<|.d<|.s<|.s<|.g<|.r 3<|.d<|.b 0<|T.loop (X:=Nat) 0 (fun k=>[(0,.slice a1 s.length c1),(1,.func (.func 121) #[] #[.pointer (some ⟨bq_num,0,none⟩)]),(7,vI (s.length:Int)),(8,vI (k:Int))]) (fun k ab=>Chg (ins []) w ab∧(k≤s.length)∧(DA num k (s.drop k)=DA num 0 s)) (fun k=>s.length - k) AA ⟨AA,AA,AA,AA,trivial⟩ ⟨Chg.refl _ _,AD,AD⟩ ?_
 rintro k aE ab ⟨E,ay,az⟩ ac
 have af:Mv [] [] w ab:=Mv.inl E all_nil all_nil
 replace ⟨h1,hb_num⟩:=(sp af E).g2 h1 hb_num
 have aa:Chg nil w ab:=Chg.LO (Chg.refl nil w) E all_nil
 refine .s<|.g<|.bp ((k:Int)< (s.length:Int)) (fun ak=>?_) (fun ak=>.d<|.s<|.cf<|.x 0 rfl<|.s<|.g<|.r 1<|.d<|.rt func120 results120 (vI (-1)) ⟨(congrArg (Value.int .i64) (by grind [DA,Aa])),aa⟩)
 refine .d<|.s<|.ct<|.sk<|.s<|.b 1<|.s<|.g<|.r 2<|.d<|.s<|.g<|.r 3 ?_
 have al:k< s.length:=AB
 refine .ix k 3 h1 al ?_
 obtain ⟨ah,ae⟩:∃ y,s[k]? = some y:=⟨_,AU AB⟩
 have aA:=Be ae
 obtain ⟨_,⟨aF,aG,aH,aI,aJ,aK,rfl,ai,aj⟩,am⟩:=h1.elem k ah ae
 have ao:=ai.len
 subst ao
 have aq:=aj.len
 subst aq
 refine .lg 0 am<|.cl (Hk ah num ai.ta aj.ta hb_num (w:=ab) (F:=all)) ?_
 rintro aL aM ⟨rfl,ag⟩
 replace ⟨hb_num,aa,E⟩:=(se [] ag).g3 hb_num aa E
 cases aD:(ah.num==num)
 ·exact .d<|.cf<|.sk<|.ib 1<|.g<|.it ((k:Int)+1)<|.r 1<|.d<|ac (k+1) _ _ ⟨AA,AA,AA,AA,trivial⟩ ⟨E,AB,(by grind [DA])⟩ AB
 exact .d<|.ct<|.s<|.g<|.r 2<|.d<|.rt func120 results120 (vI (k:Int)) ⟨(congrArg (Value.int .i64) (by grind [DA,Aa])),aa⟩
theorem Co (d:Dsk) (num:Int) (h1:RepS w F a1 n1 c1 d.files) (h2:RepS w F a2 n2 c2 d.list) (h3:RepS w F a3 n3 c3 d.names)  : Calls Tryz.prog 67 [.agg #[.slice a1 n1 c1,.slice a2 n2 c2,.slice a3 n3 c3,.int .i64 d.next],.int .i64 num].toArray w (Al fun rv w'=>rv=.int .i64 (As d num)∧Ext w w'):=by
 cases h1.len
 cases h2.len
 cases h3.len
 refine goT func67 ?_
 have Z:=(((St.i0 F w).p h1).p h2).p h3
 exact .s<|.g<|RG.Np Z fun ac w Z=>RG.Np Z fun ae w Z=>.r 1<|.d<|.s<|.g<|.r 1<|RG.Lb 1 Z<|.r 1<|RG.C0 (IT d.files num (Z.a 2) (Z.bc 0)) Z fun w Z=>.r 1<|.d<|T.rt func67 results67 (vI (DA num 0 d.files)) ⟨(congrArg (Value.int .i64) AF),Z.xt⟩
theorem CY (s:List Int) (v:Int) (h1:RepS w F a1 n1 c1 s)  : Calls Tryz.prog 117 [.slice a1 n1 c1,.int .i64 v].toArray w (Al fun rv w'=>rv=.bool (s.contains v)∧Ext w w'):=by
 cases h1.len
 refine goT func117 ?_
 have Z:=(St.i0 F w).p h1
 exact .s<|.g<|.r 1<|.d<|.s<|.g<|.r 2<|RG.C0 (Dx s v (Z.a 0)) Z fun w Z=>.r 2<|.d<|T.rt func117 results117 (.bool (decide (EG v 0 s≥0))) ⟨(AG (by exact (R3 v s 0).symm)),Z.xt⟩
theorem EK (d:Dsk) (h1:RepS w F a1 n1 c1 d.files) (h2:RepS w F a2 n2 c2 d.list) (h3:RepS w F a3 n3 c3 d.names) (p0:DD d) (p1:∀ n∈d.list,0≤As d n):Calls Tryz.prog 57 [.agg #[.slice a1 n1 c1,.slice a2 n2 c2,.slice a3 n3 c3,.int .i64 d.next]].toArray w (Al fun rv w'=>(∃ (y:Sto),VS (ge w.heap.size) w' (y:Sto) rv∧(D6 d y))∧Ext w w'):=by
 cases h1.len
 cases h2.len
 cases h3.len
 refine goT func57 ?_
 have Z:=(((St.i0 F w).p h1).p h2).p h3
 have aJ:=h2.max
 refine .s<|.g<|RG.Np Z fun al w Z=>RG.Np Z fun am w Z=>.d<|.s<|.g<|.r 1<|RG.Lb 1 Z<|RG.cl (GH d.names (Z.a 0) p0.g.len p0.g.l5 p0.g.bl) ?_
 rintro aU w ⟨⟨ag,ay,aL⟩,ao⟩
 refine RG.vS Z ay ao ?_
 intro az aA aB aC Z
 refine RG.N0 Prt 0 Z fun aD w Z=>RG.N0 Smp 0 Z fun aE w Z=>.r 1<|RG.Np Z fun ai w Z=>RG.Ss 0 Z fun w Z=>.d<|.s<|.s<|.g<|.r 1<|RG.Lb 4 Z<|.r 2<|.d<|.b 0<|T.Lp ((0:Nat),(ag.names:List (List Tag)),az,aA,(ag.AY:List Pst),aB,aC,([]:List Prt),aD,(0:Nat),([]:List Smp),aE,(0:Nat)) (fun (k,aa,a_s_0,c_s_0,ab,a_s_1,c_s_1,E,r_s_2,c_s_2,ac,r_s_3,c_s_3)=>([(1,vP al),(2,vP am),(3,vP ai),(13,.slice a2 d.list.length c2),(14,vI (d.list.length:Int)),(15,vI (k:Int))],[(0,.box ai 32 [.slice a_s_0 aa.length c_s_0,.slice a_s_1 ab.length c_s_1,vS r_s_2 E.length c_s_2,vS r_s_3 ac.length c_s_3]),(1,.own 0 r_s_3 107 c_s_3 ac),(2,.own 0 r_s_2 66 c_s_2 E)],[⟨0,none,.rep a_s_0 c_s_0 aa⟩,⟨0,none,.rep a_s_1 c_s_1 ab⟩],d.list.length - k,(k≤d.list.length)∧(E.length≤k)∧(E++(d.list.drop k).map (Au d)=d.list.map (Au d))∧(ac=[])∧(aa=d.names)∧((NmI d.names→NsD d.names→(⟨aa,ab⟩:Idx)=idxOf d.names)))) [0,1] Z ⟨AD,AD,AF,AF,(by have q1:ag.names=d.names∧(NmI d.names→NsD d.names→ag=idxOf d.names):=‹_›; exact q1.1),(by have q1:ag.names=d.names∧(NmI d.names→NsD d.names→ag=idxOf d.names):=‹_›; exact q1.2)⟩ ?_
 rintro ⟨k,aa,a_s_0,c_s_0,ab,a_s_1,c_s_1,E,r_s_2,c_s_2,ac,r_s_3,c_s_3⟩ aV w Z ⟨aM,aN,aO,aP,aQ,aR⟩ ah
 refine .s<|.g<|.bp ((k:Int)< (d.list.length:Int)) (fun aq=>?_) (fun aq=>?_)
 ·exact .d<|.s<|.ct<|.sk<|.s<|.b 1<|.s<|.g<|gxb (h:=AB) d.list k fun aj ae aS ar=>RG.Ix 5 ae Z<|Z.el 5 ae fun Z=>RG.Lh 0 0 Z<|.r 1<|.d<|T.GS 12 [ai,am,al] Z fun _ w Z=>.r [0]<|GA.Lb 1 0 Z<|.r [2]<|GA.Lb (q:=2) 3 4 Z<|GA.Ln (q:=2) 4 4 Z<|.r [5]<|GA.D0 6 Z (fun w Y=>Co d aj (Y.a 7) (Y.a 6) (Y.a 5))<|gxm (h:=(by exact (G9 (p1 _ ‹_›)).1)) d.files ((As d aj).toNat) fun ak af ax=>GA.Jx (hz:=(by exact (G9 (p1 _ ‹_›)).2)) 7 7 (As d aj) af Z<|.r [8]<|Z.el 7 af fun aW aX aY aZ Z=>GA.Lg 9 0 1 Z<|.go 10<|GE.CS (fun w Z=>Ar ak.part (Z.a 1) (Z.a 2) (p0.file _ ‹_›).sz) Z fun ba bd bg bh w Z=>.go 11<|GE.Nb 1 Z fun bi w Z=>GA.Do Z fun w Z=>RG.Ap (hs:=by exact (by have:=p0.nl; omega)) 2 0 E ak.part [0,1] Z fun aG aH w Z=>.r 1<|RG.Ss 0 Z fun w Z=>.d<|.ib 1<|.g<|RG.int ((k:Int)+1) AA AB<|.r 1<|.d<|ah (k+1,aa,a_s_0,c_s_0,ab,a_s_1,c_s_1,(E++[ak.part]),aG,aH,ac,r_s_3,c_s_3) _ _ AA (Z.to 0 [6,7] 8) ⟨AB,(by simp; omega),(by exact QS ‹_› ‹_› ‹_›),‹_›,‹_›,‹_›⟩ (by (simp only []; omega))
 refine .d<|.s<|.cf<|.x 0 rfl<|.s<|.g<|RG.Ln 0 Z<|RG.Ss 3 Z fun w Z=>.d ?_
 have Z:=(Z.sl 2).sl 1
 exact T.Rb 1 func57 results57 Z ⟨⟨((⟨(⟨aa,ab⟩:Idx),E,ac⟩:Sto):Sto),Z.rS (⟨(⟨aa,ab⟩:Idx),E,ac⟩:Sto) [2,3,1,0] rfl,(by exact D6.mk ‹_› (R6 ‹_› AB) ‹_› ‹_›)⟩,Z.xt⟩
theorem C5 (d:Dsk) (h1:RepS w F a1 n1 c1 d.files) (h2:RepS w F a2 n2 c2 d.list) (h3:RepS w F a3 n3 c3 d.names) (p0:DD d):Calls Tryz.prog 56 [.agg #[.slice a1 n1 c1,.slice a2 n2 c2,.slice a3 n3 c3,.int .i64 d.next]].toArray w (Al fun rv w'=>rv=.bool (Ax d)∧Ext w w'):=by
 cases h1.len
 cases h2.len
 cases h3.len
 refine goT func56 ?_
 have Z:=(((St.i0 F w).p h1).p h2).p h3
 have aG:=h1.max
 have aH:=h2.max
 refine .s<|.g<|RG.Np Z fun ak w Z=>.r 1<|.d<|.s<|.s<|.g<|.r 1<|RG.Lb 0 Z<|RG.C0 (Bm d.next 1 999 (F:=all)) Z fun w Z=>?_
 cases ah:(inR d.next 1 999)
 ·exact .r 13<|.d<|.ct<|.s<|.g<|.r 1<|.d<|T.rt func56 results56 (.bool false) ⟨(AG (by symm; exact VC (.inl ‹_›))),Z.xt⟩
 have aK:=Bu ah
 refine .r 3<|RG.Lb 0 Z<|.r 1<|.bp ((d.files.length:Int) > 20) (fun al=>.r 7<|.d<|.ct<|.s<|.g<|.r 1<|.d<|T.rt func56 results56 (.bool false) ⟨(AG (by symm; exact VC (.inr (.inl ‹_›)))),Z.xt⟩) fun al=>.r 3<|RG.Lb 0 Z<|.r 1<|.bp ((d.list.length:Int) > 6) (fun am=>.r 1<|.d<|.ct<|.s<|.g<|.r 1<|.d<|T.rt func56 results56 (.bool false) ⟨(AG (by symm; exact VC (.inr (.inr (.inl ‹_›))))),Z.xt⟩) fun am=>.r 1<|.d<|.cf<|.sk<|.s<|.s<|.g<|.r 1<|RG.Lb 0 Z<|.r 2<|.d<|.b 0<|T.Lp (0:Nat) (fun k=>([(1,vP ak),(24,.slice a1 d.files.length c1),(25,vI (d.files.length:Int)),(26,vI (k:Int))],[],[],d.files.length - k,(k≤d.files.length)∧(DY d.next (Jv d.files k) (d.files.drop k)=DY d.next none d.files))) [] Z ⟨AD,AF⟩ ?_
 rintro k aZ w Z ⟨aL,aM⟩ E
 refine .s<|.g<|.bp ((k:Int)< (d.files.length:Int)) (fun ao=>?_) (fun ao=>?_)
 ·refine .d<|.s<|.ct<|.sk<|.s<|.b 1<|.s<|.g<|.r 1<|gxd d.files k fun aa ab aN=>RG.Ix 2 ab Z<|Z.el 2 ab fun ba bd bg bh Z=>RG.Lg 0 0 Z<|RG.Np Z fun bi w Z=>.r 1<|RG.Ss 0 Z fun w Z=>.d<|.s<|T.Gd 20 Z fun w Z=>.r [0]<|GA.Lb 1 0 Z<|.r [2]<|GA.Lb 3 1 Z<|GA.int (i:=4) (d.next - 1) AA (by have q1:=p0.next; omega)<|GA.C0 5 Z (fun w Z=>Bm aa.num 1 (d.next - 1) (F:=all)) ?_
  cases ai:(inR aa.num 1 (d.next - 1))
  ·exact .r [6,7]<|GA.Sk Z fun w Z=>.r 9<|.d<|.ct<|.s<|.g<|.r 1<|.d<|T.rt func56 results56 (.bool false) ⟨(AG (by symm; exact To (Me ‹_› ‹_› (.inl ‹_›)))),Z.xt⟩
  refine .r [6,7,8]<|GA.F6 (i:=9) ((k:Int) > 0) AA (fun aq=>?_) (fun aq=>?_)
  ·refine .r [10,11]<|GA.Lb 12 1 Z<|.r [13]<|GA.int (i:=14) ((k:Int) - 1) AA (by have q1:=p0.next; omega)<|gx d.files (k - 1) fun aE ac=>GA.Jx 15 5 ((k:Int) - 1) ac Z<|.r [16]<|Z.el 5 ac fun bj bk bm bn Z=>GA.Lh 17 0 0 Z<|.r [18]<|GA.Lb 19 0 Z<|GA.Dn Z fun w Z=>.bp (aE.num≥aa.num) (fun ar=>.r 8<|.d<|.ct<|.s<|.g<|.r 1<|.d<|T.rt func56 results56 (.bool false) ⟨(AG (by symm; exact To (Me ‹_› ‹_› (.inr (.inl ⟨by omega,_,by assumption,by assumption⟩))))),Z.xt⟩) fun ar=>.r 4<|RG.Ln 0 Z<|RG.C0 (C4 aa.part (Z.a 4) (Z.a 5)) Z fun w Z=>?_
   cases aR:(At aa.part)
   ·exact .r 2<|.d<|.ct<|.s<|.g<|.r 1<|.d<|T.rt func56 results56 (.bool false) ⟨(AG (by symm; exact To (Me ‹_› ‹_› (.inr (.inr ‹_›))))),Z.xt⟩
   exact .r 2<|.d<|.cf<|.sk<|.ib 1<|.g<|RG.int ((k:Int)+1) AA (by have q1:=p0.next; omega)<|.r 1<|.d<|E (k+1) _ _ AA (Z.to 1 [] 6) ⟨AB,(by exact Ni ‹_› ‹_› ‹_› ‹_› (.inr ⟨_,by assumption,by assumption⟩) ‹_›)⟩ (by (simp only []; omega))
  refine .r [10]<|GA.Sk Z fun w Z=>.r 5<|RG.Ln 0 Z<|RG.C0 (C4 aa.part (Z.a 1) (Z.a 2)) Z fun w Z=>?_
  cases aS:(At aa.part)
  ·exact .r 2<|.d<|.ct<|.s<|.g<|.r 1<|.d<|T.rt func56 results56 (.bool false) ⟨(AG (by symm; exact To (Me ‹_› ‹_› (.inr (.inr ‹_›))))),Z.xt⟩
  exact .r 2<|.d<|.cf<|.sk<|.ib 1<|.g<|RG.int ((k:Int)+1) AA (by have q1:=p0.next; omega)<|.r 1<|.d<|E (k+1) _ _ AA (Z.to 1 [] 3) ⟨AB,(by exact Ni ‹_› ‹_› ‹_› ‹_› (.inl AB) ‹_›)⟩ (by (simp only []; omega))
 refine .d<|.s<|.cf<|.x 0 rfl<|.s<|.s<|.g<|.r 1<|RG.Lb 0 Z<|.r 2<|.d<|.b 2<|T.Lp (0:Nat) (fun k=>([(1,vP ak),(62,.slice a2 d.list.length c2),(63,vI (d.list.length:Int)),(64,vI (k:Int))],[],[],d.list.length - k,(k≤d.list.length)∧(DY d.next none d.files=true)∧(R4 d k))) [] Z ⟨AD,(by exact Tn ‹_› AB),(by exact U8 _)⟩ ?_
 rintro k bo w Z ⟨aT,aU,aV⟩ af
 refine .s<|.g<|.bp ((k:Int)< (d.list.length:Int)) (fun ax=>?_) (fun ax=>?_)
 ·refine .d<|.s<|.ct<|.sk<|.s<|.b 3<|.s<|.g<|.r 1<|gx d.list k fun ag ae=>RG.Ix 1 ae Z<|Z.el 1 ae fun Z=>RG.Lh 0 0 Z<|.r 2<|.d<|.s<|.g<|RG.Ln 0 Z<|.r 1<|RG.C0 (Co d ag (Z.a 3) (Z.a 2) (Z.a 1)) Z fun w Z=>.bp (As d ag< 0) (fun ay=>.r 8<|.d<|.ct<|.s<|.g<|.r 1<|.d<|T.rt func56 results56 (.bool false) ⟨(AG (by symm; exact V5 (U9 ‹_› ‹_›))),Z.xt⟩) fun ay=>.r 2<|RG.Lb 0 Z<|.r 1<|RG.Sb (hhi:=bdS AA) 2 0 k d.list Z fun bq br Z=>.r 1<|RG.C0 (CY ((d.list.take k).drop 0) ag (Z.a 0)) Z fun w Z=>?_
  cases aX:((d.list.take k).drop 0).contains ag
  ·exact .r 1<|.d<|.cf<|.sk<|.ib 3<|.g<|RG.int ((k:Int)+1) AA (by have q1:=p0.next; omega)<|.r 1<|.d<|af (k+1) _ _ AA (Z.to 0 [] 2) ⟨AB,‹_›,(by exact QR ‹_› ‹_› ‹_› (R5 ‹_›) (Nat.le_refl _))⟩ (by (simp only []; omega))
  exact .r 1<|.d<|.ct<|.s<|.g<|.r 1<|.d<|T.rt func56 results56 (.bool false) ⟨(AG (by symm; exact V5 (VB ‹_› ‹_›))),Z.xt⟩
 refine .d<|.s<|.cf<|.x 2 rfl<|.s<|.g<|RG.Ln 0 Z<|RG.cl (EK d (Z.a 2) (Z.a 1) (Z.a 0) p0 (EV (Nj ‹_› AB))) ?_
 rintro bt w ⟨⟨aj,aF,aY⟩,az⟩
 refine RG.vS Z aF az ?_
 intro bu bv bw bz bA bB bC bD Z
 exact RG.C0 (EY aj (Z.a 0) (Z.a 1) (Z.a 2) (Z.a 3) (D6.sg (by assumption:D6 d _) p0)) Z fun w Z=>.r 1<|.d<|T.rt func56 results56 (.bool (nmB aj.idx.names&&Ac aj)) ⟨(AG (by exact D6.dk (by assumption:D6 d _) p0 ‹_› AB AB ‹_› (Nj ‹_› AB))),Z.xt⟩
theorem Jw (d:Dsk) (h1:RepS w F a1 n1 c1 d.files) (h2:RepS w F a2 n2 c2 d.list) (h3:RepS w F a3 n3 c3 d.names) (p0:DD d):Calls Tryz.prog 22 [.agg #[.slice a1 n1 c1,.slice a2 n2 c2,.slice a3 n3 c3,.int .i64 d.next]].toArray w (Al fun rv w'=>VS (fo F w.heap.size) w' (Cf d:Sto) rv∧Ext w w'):=by
 cases h1.len
 cases h2.len
 cases h3.len
 refine goT func22 ?_
 have Z:=(((St.i0 F w).p h1).p h2).p h3
 refine .s<|.g<|RG.Np Z fun ai w Z=>RG.Np Z fun aj w Z=>.d<|.s<|.s<|.g<|RG.Ln 1 Z<|RG.C0 (C5 d (Z.a 2) (Z.a 1) (Z.a 0) p0) Z fun w Z=>?_
 cases ag:(Ax d)
 ·refine .r 1<|.d<|.ct<|.s<|.g<|.r 1<|RG.Ss 0 Z fun w Z=>.d ?_
  have Z:=(((Z.nl (List Tag)).nl Pst).nl Prt).nl Smp
  exact T.Rb 0 func22 results22 Z ⟨Z.rS (g:=1) (⟨(⟨([]:List (List Tag)),([]:List Pst)⟩:Idx),([]:List Prt),([]:List Smp)⟩:Sto) [3,2,1,0] (by exact (Tp ‹_›).symm),Z.xt⟩
 refine .r 1<|.d<|.cf<|.sk<|.s<|.g<|RG.Ln 1 Z<|RG.cl (EK d (Z.a 2) (Z.a 1) (Z.a 0) p0 (EV (Fj ‹_›).2.2)) ?_
 rintro ak w ⟨⟨aa,ab,ah⟩,E⟩
 refine RG.vS Z ab E ?_
 intro al am ao aq ar ax ay az Z
 exact RG.Ss 0 Z fun w Z=>.d<|T.Rb 0 func22 results22 Z ⟨Z.rS (g:=1) aa [0,1,2,3] (by exact D6.eq (by assumption:D6 d _) p0 ‹_›),Z.xt⟩
end Go.Proofs.YtckdhcbbgmiccaaGreat
namespace Go.Proofs.YtckdhcbbgmiccaaGreat
structure MI (s y:Sto) (i:Nat):Prop where
 sd:SD y
 ok:Ac y=true
 idx:y.idx=s.idx
 mem:y.mem=s.mem
 lo:1≤y.parts.length
 hi:y.parts.length≤1∨y.parts.length+i≤6
 rows:∀ id:Int,1≤id→id≤6→y.parts.foldl (Bo id) []=s.parts.foldl (Bo id) []
theorem MI.step {s y:Sto}{i:Nat}{a:Int}(h:MI s y i) (h1:(BL y a).2=true):MI s (BL y a).1 (i+1):=by
 obtain ⟨hk,h2,h3,e⟩:=IS h.sd h1
 have hl:=QQ h.sd h1
 refine ⟨R2 h.sd h1,(Oj h.sd h1).2,by rw [e]; exact h.idx,by rw [e]; exact h.mem,by omega,?_,fun id a1 a2=>?_⟩
 ·have:=h.hi; omega
 ·rw [e,(EU (StoK.of h.sd hk) AB a1 a2).1]
  exact h.rows id a1 a2
theorem MI.start {s:Sto}{a:Int}(h:SD s) (h1:(BL s a).2=true):MI s s 0∧MI s (BL s a).1 0:=by
 obtain ⟨hk,h2,h3,e⟩:=IS h h1
 have h0:MI s s 0:=⟨h,hk,rfl,rfl,by omega,.inr (by have:=h.np; omega),fun _ _ _=>rfl⟩
 have h4:=h0.step h1
 exact ⟨h0,h4.sd,h4.ok,h4.idx,h4.mem,h4.lo,by have:=h4.hi; omega,h4.rows⟩
theorem MI.one {s y:Sto}{i:Nat}(h:MI s y i) (hi:6≤i):y.parts.length=1:=by have:=h.lo; have:=h.hi; omega
theorem R7:∀ (is:List Int) (bs:List (List Row)) (o:Option Int),Bl o is bs=true→is.length=bs.length→∀ is' bs',Bl o is' bs'=true→is'.length=bs'.length→(∀ id:Int,BY id is bs=BY id is' bs')→is=is'∧bs=bs':=by
 have low:∀ (is:List Int) (bs:List (List Row)) (o:Option Int),Bl o is bs=true→∀ q,o=some q→∀ i∈is,q< i:=by
  intro is
  induction is with
  | nil=>intro bs o _ q _ i hi; cases hi
  | cons x xs ih =>
    intro bs o hg q hq i hi
    cases bs with
    | nil=>simp [Bl] at hg
    | cons b bs =>
      simp only [Bl,AW] at hg
      have hx:q< x:=by have:=hg.1.1.1.2; rw [hq] at this; simpa using this
      rcases List.mem_cons.1 hi with rfl | hi
      ·exact hx
      ·have:=ih bs (some x) hg.2 x rfl i hi; omega
 have none_of:∀ (is:List Int) (bs:List (List Row)) (id:Int),(∀ i∈is,i≠id)→BY id is bs=[]:=by
  intro is
  induction is with
  | nil=>intro bs id _; unfold BY; rfl
  | cons i is ih =>
    intro bs id h
    cases bs with
    | nil=>unfold BY; rfl
    | cons b bs =>
      unfold BY
      rw [if_neg (by have:=h i AD; simpa using this)]
      exact ih bs id (fun j hj=>h j (by simp [hj]))
 have mem_of:∀ (is:List Int) (bs:List (List Row)) (id:Int),BY id is bs≠[]→id∈is:=by
  intro is bs id h
  rcases Classical.em (id∈is) with h1 | h1
  ·exact h1
  ·exact absurd (none_of is bs id (fun i hi e=>h1 (e▸hi))) h
 intro is
 induction is with
 | nil =>
   intro bs o hg hl is' bs' hg' hl' h
   cases bs with
   | cons _ _=>simp at hl
   | nil =>
     cases is' with
     | nil =>
       cases bs' with
       | nil=>exact ⟨rfl,rfl⟩
       | cons _ _=>simp at hl'
     | cons i is' =>
       cases bs' with
       | nil=>simp at hl'
       | cons b bs' =>
         simp only [Bl,AW,decide_eq_true_eq] at hg'
         have:=h i
         unfold BY at this
         rw [if_pos AD] at this
         rw [← this] at hg'
         exact absurd hg'.1.1.2 AD
 | cons i is ih =>
   intro bs o hg hl is' bs' hg' hl' h
   cases bs with
   | nil=>simp at hl
   | cons b bs =>
     have hg0:=hg
     simp only [Bl,AW,decide_eq_true_eq] at hg
     cases is' with
     | nil =>
       cases bs' with
       | cons _ _=>simp at hl'
       | nil =>
         have:=h i
         unfold BY at this
         rw [if_pos AD] at this
         rw [this] at hg
         exact absurd hg.1.1.2 AD
     | cons i' is' =>
       cases bs' with
       | nil=>simp at hl'
       | cons b' bs' =>
         have hg0':=hg'
         simp only [Bl,AW,decide_eq_true_eq] at hg'
         have a1:BY i (i'::is') (b'::bs')=b:=by rw [← h i]; unfold BY; rw [if_pos AD]
         have a2:BY i' (i::is) (b::bs)=b':=by rw [h i']; unfold BY; rw [if_pos AD]
         have m1:=mem_of _ _ i (by rw [a1]; exact List.ne_nil_of_length_pos hg.1.1.2)
         have m2:=mem_of _ _ i' (by rw [a2]; exact List.ne_nil_of_length_pos hg'.1.1.2)
         have hii:i=i':=by
          rcases List.mem_cons.1 m1 with e | e
          ·exact e
          ·rcases List.mem_cons.1 m2 with e2 | e2
           ·exact e2.symm
           ·have:=low is' bs' (some i') hg'.2 i' rfl i e
            have:=low is bs (some i) hg.2 i rfl i' e2
            omega
         subst hii
         have hbb:b=b':=by
          rw [← a1]
          unfold BY
          rw [if_pos AD]
         subst hbb
         have:=ih bs (some i) hg.2 (by simpa using hl) is' bs' hg'.2 (by simpa using hl') (fun id=>by
          by_cases e:i=id
          ·subst e
           rw [none_of is bs i (fun j hj e=>by have:=low is bs (some i) hg.2 i rfl j hj; omega),none_of is' bs' i (fun j hj e=>by have:=low is' bs' (some i) hg'.2 i rfl j hj; omega)]
          ·have:=h id
           unfold BY at this
           rw [if_neg (by simpa using e),if_neg (by simpa using e)] at this
           exact this)
         rw [this.1,this.2]
         exact ⟨rfl,rfl⟩
theorem Nk {p q:Prt}(hp:At p=true) (hq:At q=true) (h:∀ id:Int,partOf p id=partOf q id):p=q:=by
 unfold At at hp hq
 simp only [AW,decide_eq_true_eq] at hp hq
 obtain ⟨e1,e2⟩:=R7 p.ids p.blocks none hp.2 hp.1 q.ids q.blocks hq.2 hq.1 h
 cases p
 cases q
 simp only [Prt.mk.injEq]
 exact ⟨e1,e2⟩
theorem MI.same {s y z:Sto}{i:Nat}(hy:MI s y i) (hz:MI s z i) (hi:6≤i){p q:Prt}(hp:y.parts[0]? = some p) (hq:z.parts[0]? = some q) (hf:(p==q)=false):False:=by
 have l1:=hy.one hi
 have l2:=hz.one hi
 have e1:y.parts=[p]:=by
  match hh:y.parts,l1 with
  | [x],_=>rw [hh] at hp; simp at hp; rw [hp]
 have e2:z.parts=[q]:=by
  match hh:z.parts,l2 with
  | [x],_=>rw [hh] at hq; simp at hq; rw [hq]
 have kp:=(StoK.of hy.sd hy.ok).part p (by rw [e1]; simp)
 have kq:=(StoK.of hz.sd hz.ok).part q (by rw [e2]; simp)
 have key:p=q:=Nk kp.2 kq.2 (fun id=>by
  by_cases hid:1≤id∧id≤6
  ·have h1:=hy.rows id hid.1 hid.2
   have h2:=hz.rows id hid.1 hid.2
   rw [e1] at h1
   rw [e2] at h2
   simp only [List.foldl_cons,List.foldl_nil] at h1 h2
   unfold Bo at h1 h2
   rw [Kq (kp.1.of id)] at h1
   rw [Kq (kq.1.of id)] at h2
   rw [h1,h2]
  ·have g:∀ p:Prt,At p=true→partOf p id=[]:=fun p hp=>by
    unfold At at hp
    simp only [AW,decide_eq_true_eq] at hp
    have key:∀ (is:List Int) (bs:List (List Row)) (o:Option Int),Bl o is bs=true→BY id is bs=[]:=by
     intro is
     induction is with
     | nil=>intro bs o _; unfold BY; rfl
     | cons i is ih =>
       intro bs o hg
       cases bs with
       | nil=>unfold BY; rfl
       | cons b bs =>
         simp only [Bl,AW] at hg
         have h5:=Bu hg.1.1.1.1
         unfold BY
         rw [if_neg (by simp; omega)]
         exact ih bs _ hg.2
    exact key _ _ _ hp.2
   rw [g p kp.2,g q kq.2])
 rw [key] at hf
 simp at hf
end Go.Proofs.YtckdhcbbgmiccaaGreat
namespace Go.Proofs.YtckdhcbbgmiccaaGreat
theorem WD.dd {w:Wld}(h:WD w):DD w.disk:=⟨NmG.of h.wi.dsk.nm h.dn,by have:=h.wi.dsk.nl; omega,h.wi.dsk.nf,h.wi.dsk.file,by have:=h.wi.dsk.next; omega⟩
end Go.Proofs.YtckdhcbbgmiccaaGreat
namespace Go.Proofs.YtckdhcbbgmiccaaGreat
theorem RG.b2s {P:Program}{n:Nat}{K:Env→World→Prop}{ops:Array Oper}{j:Nat}{e:Env}{w:World}{s d:TypeId}{r c:Nat}{y:UInt8}{t:TypeId}{F:Nat→Prop}
 (ho:Own w r t F 1 c [y]) (h:Q4 n ops j e=some (s,d,.slice (some ⟨r,0,none⟩) 1 c)) (ht:S9 P s d=true)
 (H:RG P n K ops (j+1) (Ah e (Ad ops j).dst (.string (bs [y]))) w):RG P n K ops j e w:=by
 obtain ⟨cs,h1,h2⟩:=ho.elem 0 y rfl
 cases h1
 have h3:Has w ⟨r,0,none⟩ [.int .u8 (y.toNat:Int)]:=by simpa using h2
 have h4:=Ir (P:=P) (w:=w) h (Ke h3 ht)
 exact RG.val h4.1 h4.2 H
theorem Nn:∀ (fs:List Fil) (nx:Int) (o:Option Int),DY nx o fs=true→∀ f∈fs,1≤f.num∧f.num≤nx - 1∧At f.part=true:=by
 intro fs
 induction fs with
 | nil=>intro nx o _ f hf; cases hf
 | cons x xs ih =>
   intro nx o h f hf
   unfold DY at h
   simp only [AW] at h
   rcases List.mem_cons.1 hf with rfl | hf
   ·have:=Bu h.1.1.1
    exact ⟨this.1,this.2,h.1.2⟩
   ·exact ih nx _ h.2 f hf
theorem Ok {p:Prt}(h:PrtI p) (hk:At p=true):BB p ⟨[],[]⟩=p:=by
 have hb:∀ id:Int,(partOf p id).length≤24:=fun id=>by
  have:=Fh hk id
  unfold Bc at this
  simp only [AW,decide_eq_true_eq] at this
  exact this.2
 have e:∀ id:Int,partOf (⟨[],[]⟩:Prt) id=[]:=fun id=>by unfold partOf BY; rfl
 have hz:∀ id:Int,¬ (1≤id∧id≤6)→∀ q:Prt,At q=true→partOf q id=[]:=fun id hid q hq=>by
  unfold At at hq
  simp only [AW,decide_eq_true_eq] at hq
  have key:∀ (is:List Int) (bs:List (List Row)) (o:Option Int),Bl o is bs=true→BY id is bs=[]:=by
   intro is
   induction is with
   | nil=>intro bs o _; unfold BY; rfl
   | cons i is ih =>
     intro bs o hg
     cases bs with
     | nil=>unfold BY; rfl
     | cons b bs =>
       simp only [Bl,AW] at hg
       have h5:=Bu hg.1.1.1.1
       unfold BY
       rw [if_neg (by simp; omega)]
       exact ih bs _ hg.2
  exact key _ _ _ hq.2
 have hm:At (BB p ⟨[],[]⟩)=true:=by
  unfold BB
  refine NS (fun b hb2=>?_) (by rw [Dl]; omega)
  unfold BR at hb2
  obtain ⟨i,_,rfl⟩:=List.mem_map.1 hb2
  rw [e,Kp]
  exact ⟨h.of _,hb _⟩
 refine Nk hm hk (fun id=>?_)
 by_cases hid:1≤id∧id≤6
 ·rw [Lu _ _ hid.1 hid.2,e,Kp]
 ·rw [hz id hid _ hm,hz id hid _ hk]
theorem C2 {d:Dsk}(h:Ax d=true):(1≤d.next∧d.next≤999)∧d.list.length≤6∧DY d.next none d.files=true∧Ds d=true:=by
 unfold Ax at h
 simp only [AW,decide_eq_true_eq] at h
 exact ⟨Bu h.1.1.1.1.1,h.1.1.1.2,h.1.1.2,h.1.2⟩
theorem DD.UN {d:Dsk}(h:DD d) (hk:Ax d=true):BG d=d:=by
 have hf:=(C2 hk).2.2.1
 have:d.files.map Kb=d.files:=by
  have key:∀ f∈d.files,Kb f=f:=fun f hm=>by
   unfold Kb
   rw [Ok (h.file f hm) (Nn _ _ _ hf f hm).2.2]
  exact (List.map_congr_left key).trans (List.map_id _)
 unfold BG
 rw [this]
theorem DD.di {d:Dsk}(h:DD d) (hk:Ax d=true):DskI d:=by
 obtain ⟨h1,h2,h3,h4⟩:=C2 hk
 have hth:∀ n∈d.list,∃ f∈d.files,f.num=n:=fun n hn=>(Ez d n).1 (EV h4 n hn)
 refine ⟨(Fj hk).1,h.nf,h.file,h2,hth,fun n hn=>?_,h1⟩
 obtain ⟨f,hf,rfl⟩:=hth n hn
 have:=Nn _ _ _ h3 f hf
 omega
theorem R8:(IH 0 [] []).length≤12:=by decide
theorem R9:DD ⟨[],[],[],0⟩:=⟨⟨by simp,NsD.nil,R8⟩,by simp,by simp,by simp,by simp⟩
end Go.Proofs.YtckdhcbbgmiccaaGreat
namespace Go.Proofs.YtckdhcbbgmiccaaGreat
def CQ (d:Dsk) (s:Sto):Bool:=Ax d&&(nmB s.idx.names&&Ac s)&&decide (s.parts=d.list.map (Au d))&&decide (d.names=s.idx.names.take d.names.length)
theorem VD {d:Dsk}{s:Sto}(h:Ax d=false):false=CQ d s:=by unfold CQ; rw [h]; rfl
theorem VE {d:Dsk}{s:Sto}(h:(nmB s.idx.names&&Ac s)=false):false=CQ d s:=by unfold CQ; rw [h,Bool.and_false]; rfl
theorem VF {d:Dsk}{s:Sto}(h:s.parts≠d.list.map (Au d)):false=CQ d s:=by unfold CQ; rw [decide_eq_false h,Bool.and_false]; rfl
theorem SA {d:Dsk}{s:Sto}(h:d.names≠s.idx.names.take d.names.length):false=CQ d s:=by unfold CQ; rw [decide_eq_false h,Bool.and_false]
theorem Tq {d:Dsk}{s:Sto}(h:(s.idx.names.length:Int)< d.names.length):false=CQ d s:=SA (fun e=>by
 have:=congrArg List.length e
 rw [List.length_take] at this
 omega)
theorem Nq {d:Dsk}{s:Sto}(h1:Ax d=true) (h2:(nmB s.idx.names&&Ac s)=true) (h3:s.parts=d.list.map (Au d)) (h4:d.names=s.idx.names.take d.names.length):true=CQ d s:=by unfold CQ; rw [h1,h2,decide_eq_true h3,decide_eq_true h4]; rfl
structure Fits (d:Dsk) (s:Sto):Prop where
 dk:Ax d=true
 nm:nmB s.idx.names=true
 sk:Ac s=true
 p:s.parts=d.list.map (Au d)
 m:d.names=s.idx.names.take d.names.length
theorem C9 {d:Dsk}{s:Sto}(h:CQ d s=true):Fits d s:=by
 unfold CQ at h
 simp only [AW,decide_eq_true_eq] at h
 exact ⟨h.1.1.1,h.1.1.2.1,h.1.1.2.2,h.1.2,h.2⟩
def Af (d:Dsk) (s:Sto):List Stp:=if CQ d s then Aw d s else []
theorem E2 {d:Dsk}{s:Sto}(h:CQ d s=true):Af d s=Aw d s:=by unfold Af; rw [if_pos h]
theorem Nr {d:Dsk}{s:Sto}(h:CQ d s=false):Af d s=[]:=by unfold Af; rw [if_neg (by simp [h])]
end Go.Proofs.YtckdhcbbgmiccaaGreat
namespace Go.Proofs.YtckdhcbbgmiccaaGreat
theorem VG {d:Dsk}{s y:Sto}(hy:D6 d y) (h:(s.parts==y.parts)=false):false=CQ d s:=VF (fun e=>by
 have e2:s.parts=y.parts:=e.trans hy.2.1.symm
 rw [e2] at h
 simp at h)
theorem VH {d:Dsk}{s y:Sto}(hy:D6 d y) (h:(s.parts==y.parts)=true):s.parts=d.list.map (Au d):=(eq_of_beq h).trans hy.2.1
theorem VI {d:Dsk}{s:Sto}(h:¬ (d.names.length:Int)≤s.idx.names.length):false=CQ d s:=Tq AB
theorem VJ {d:Dsk}{s y:Sto}{l:List (List Tag)}(hy:D6 d y) (h1:Ax d=true) (h2:(nmB s.idx.names&&Ac s)=true) (h3:(s.parts==y.parts)=true) (hl:l=s.idx.names.take d.names.length):(d.names==l)=CQ d s:=by
 subst hl
 by_cases e:d.names=s.idx.names.take d.names.length
 ·rw [beq_iff_eq.2 e]
  exact Nq h1 h2 (VH hy h3) e
 ·rw [beq_eq_false_iff_ne.2 e]
  exact SA e
def Ee (d:Dsk):Bool:=(d.next==999) || decide ((d.files.length:Int)=20)
theorem Tr {d:Dsk}(h:(d.next==999)=true):true=Ee d:=by unfold Ee; rw [h]; rfl
theorem SB {d:Dsk}(h:d.next=999):true=Ee d:=Tr (by simp [h])
theorem Ts {d:Dsk}(h:¬ d.next=999):((d.files.length:Int)==20)=Ee d:=by unfold Ee; rw [beq_eq_false_iff_ne.2 h,Bool.false_or]; by_cases e:(d.files.length:Int)=20 <;> simp [e]
theorem Pa {d:Dsk}(h:Ee d=false):¬ d.next=999∧¬ (d.files.length:Int)=20:=by
 unfold Ee at h
 simpa using h
theorem Pb {d:Dsk}(h:Ee d=true):d.next=999∨(d.files.length:Int)=20:=by
 unfold Ee at h
 simpa using h
theorem V6 {d:Dsk}{s:Sto}(h:CQ d s=false):[]=Af d s:=(Nr h).symm
theorem VK {d:Dsk}{s:Sto}(h:(s.mem.length:Int)=0∨(d.list.length:Int)=6∨Ee d=true):[]=Af d s:=by
 cases hf:CQ d s with
 | false=>exact V6 hf
 | true =>
   rw [E2 hf,EH]
   rcases h with h | h | h
   ·exact .inl h
   ·exact .inr (.inl AB)
   ·rcases Pb h with h | h
    ·exact .inr (.inr (.inl AB))
    ·exact .inr (.inr (.inr AB))
theorem Ns {d:Dsk}{s:Sto}(hf:CQ d s=true) (h1:¬ (s.mem.length:Int)=0) (h2:¬ (d.list.length:Int)=6) (h3:Ee d=false) (hd:DD d):[⟨1,d.next,Ai s.mem,[],[]⟩,⟨2,0,⟨[],[]⟩,d.list++[d.next],s.idx.names⟩]=Af d s:=by
 have hk:=(C9 hf).dk
 have:=(C2 hk).2.1
 have:=(C2 hk).1
 have:=hd.nf
 have:=Pa h3
 rw [E2 hf,DI h1 AB AB AB]
theorem C6 {d:Dsk}{s:Sto}(hs:SG s) (h:CQ d s=true):SD s:=by
 obtain ⟨h1,h2,h3,h4,h5⟩:=C9 h
 exact hs.sd h2 (Mc h3)
end Go.Proofs.YtckdhcbbgmiccaaGreat
namespace Go.Proofs.YtckdhcbbgmiccaaGreat
set_option maxRecDepth 100000
set_option maxHeartbeats 4000000
variable {w:World} {F:Nat→Prop} {a1 a2 a3 a4 a5 a6 a7:Option Addr} {n1 c1 n2 c2 n3 c3 n4 c4 n5 c5 n6 c6 n7 c7:Nat}
theorem D7 (a:List Row) (b:List Row) (h1:RepS w F a1 n1 c1 a) (h2:RepS w F a2 n2 c2 b)  : Calls Tryz.prog 145 [.slice a1 n1 c1,.slice a2 n2 c2].toArray w (Al fun rv w'=>rv=.bool ((a==b))∧Ext w w'):=by
 cases h1.len
 cases h2.len
 refine goT func145 ?_
 have Z:=((St.i0 F w).p h1).p h2
 have aj:=h1.max
 refine .s<|.g<|.r 1<|.d<|.s<|.s<|.g<|.r 4<|.ne (a.length:Int) (b.length:Int) (fun ac=>.d<|.ct<|.s<|.g<|.r 1<|.d<|T.rt func145 results145 (.bool false) ⟨(AG (by grind [Aa])),Z.xt⟩) fun ac=>.d<|.cf<|.sk<|.s<|.s<|.g<|.r 3<|.d<|.b 0<|T.Lp (0:Nat) (fun k=>([(0,.slice a1 a.length c1),(1,.slice a2 b.length c2),(12,vI (a.length:Int)),(13,vI (k:Int))],[],[],a.length - k,(k≤a.length)∧(a.drop k=b.drop k↔a=b))) [] Z ⟨AD,AD⟩ ?_
 rintro k ax w Z ⟨al,am⟩ ab
 refine .s<|.g<|.bp ((k:Int)< (a.length:Int)) (fun ae=>?_) (fun ae=>.d<|.s<|.cf<|.x 0 rfl<|.s<|.g<|.r 1<|.d<|T.rt func145 results145 (.bool true) ⟨(AG (by grind [Aa])),Z.xt⟩)
 refine .d<|.s<|.ct<|.sk<|.s<|.b 1<|.s<|.g<|.r 2<|.d<|.s<|T.Gd 8 Z fun w Z=>.r [0,1]<|gxd a k fun af E ao=>GA.Ix 2 1 E Z<|Z.el 1 E fun Z=>GA.Lg 3 0 0 Z<|.r [4,5]<|gxd b k fun ag aa aq=>GA.Ix 6 1 aa Z<|Z.el 1 aa fun Z=>GA.Lg 7 0 0 Z<|GA.Dn Z fun w Z=>RG.Qk (t:=44) (x:=af) (y:=ag) AA AA ?_
 cases ar:(af==ag)
 ·exact .d<|.ct<|.s<|.g<|.r 1<|.d<|T.rt func145 results145 (.bool false) ⟨(AG (by grind [Aa])),Z.xt⟩
 exact .d<|.cf<|.sk<|.ib 1<|.g<|.it ((k:Int)+1)<|.r 1<|.d<|ab (k+1) _ _ AA (Z.to 0 [] 2) ⟨AB,(by grind)⟩ (by (simp only []; omega))
theorem Hl (s1:List (List Row)) (s2:List (List Row)) (h1:RepS w F a1 n1 c1 s1) (h2:RepS w F a2 n2 c2 s2)  : Calls Tryz.prog 144 [.slice a1 n1 c1,.slice a2 n2 c2,.func (.func 145) #[] #[]].toArray w (Al fun rv w'=>rv=.bool ((s1==s2))∧Ext w w'):=by
 cases h1.len
 cases h2.len
 refine goT func144 ?_
 have Z:=((St.i0 F w).p h1).p h2
 have aj:=h1.max
 refine .s<|.g<|.r 1<|.d<|.s<|.s<|.g<|.r 4<|.ne (s1.length:Int) (s2.length:Int) (fun ac=>.d<|.ct<|.s<|.g<|.r 1<|.d<|T.rt func144 results144 (.bool false) ⟨(AG (by grind [Aa])),Z.xt⟩) fun ac=>.d<|.cf<|.sk<|.s<|.s<|.g<|.r 3<|.d<|.b 0<|T.Lp (0:Nat) (fun k=>([(1,.slice a2 s2.length c2),(2,.func (.func 145) #[] #[]),(15,.slice a1 s1.length c1),(16,vI (s1.length:Int)),(17,vI (k:Int))],[],[],s1.length - k,(k≤s1.length)∧(s1.drop k=s2.drop k↔s1=s2))) [] Z ⟨AD,AD⟩ ?_
 rintro k ax w Z ⟨al,am⟩ ab
 refine .s<|.g<|.bp ((k:Int)< (s1.length:Int)) (fun ae=>?_) (fun ae=>.d<|.s<|.cf<|.x 0 rfl<|.s<|.g<|.r 1<|.d<|T.rt func144 results144 (.bool true) ⟨(AG (by grind [Aa])),Z.xt⟩)
 refine .d<|.s<|.ct<|.sk<|.s<|.b 1<|.s<|.g<|.r 1<|gxd s1 k fun af E ao=>RG.Ix 1 E Z<|Z.el 1 E fun ay az Z=>RG.Lh 0 0 Z<|.r 2<|.d<|.s<|.g<|.r 2<|gxd s2 k fun ag aa aq=>RG.Ix 2 aa Z<|Z.el 2 aa fun aA aB Z=>RG.Lh 0 0 Z<|.r 1<|.d<|.s<|.g<|.r 3<|RG.C0 (D7 af ag (Z.a 3) (Z.a 1)) Z fun w Z=>?_
 cases ar:(af==ag)
 ·exact .r 1<|.d<|.ct<|.s<|.g<|.r 1<|.d<|T.rt func144 results144 (.bool false) ⟨(AG (by grind [Aa])),Z.xt⟩
 exact .r 1<|.d<|.cf<|.sk<|.ib 1<|.g<|.it ((k:Int)+1)<|.r 1<|.d<|ab (k+1) _ _ AA (Z.to 0 [] 4) ⟨AB,(by grind)⟩ (by (simp only []; omega))
theorem IU (s1:List (List Tag)) (s2:List (List Tag)) (h1:RepS w F a1 n1 c1 s1) (h2:RepS w F a2 n2 c2 s2)  : Calls Tryz.prog 107 [.slice a1 n1 c1,.slice a2 n2 c2,.func (.func 94) #[] #[]].toArray w (Al fun rv w'=>rv=.bool ((s1==s2))∧Ext w w'):=by
 cases h1.len
 cases h2.len
 refine goT func107 ?_
 have Z:=((St.i0 F w).p h1).p h2
 have aj:=h1.max
 refine .s<|.g<|.r 1<|.d<|.s<|.s<|.g<|.r 4<|.ne (s1.length:Int) (s2.length:Int) (fun ac=>.d<|.ct<|.s<|.g<|.r 1<|.d<|T.rt func107 results107 (.bool false) ⟨(AG (by grind [Aa])),Z.xt⟩) fun ac=>.d<|.cf<|.sk<|.s<|.s<|.g<|.r 3<|.d<|.b 0<|T.Lp (0:Nat) (fun k=>([(1,.slice a2 s2.length c2),(2,.func (.func 94) #[] #[]),(15,.slice a1 s1.length c1),(16,vI (s1.length:Int)),(17,vI (k:Int))],[],[],s1.length - k,(k≤s1.length)∧(s1.drop k=s2.drop k↔s1=s2))) [] Z ⟨AD,AD⟩ ?_
 rintro k ax w Z ⟨al,am⟩ ab
 refine .s<|.g<|.bp ((k:Int)< (s1.length:Int)) (fun ae=>?_) (fun ae=>.d<|.s<|.cf<|.x 0 rfl<|.s<|.g<|.r 1<|.d<|T.rt func107 results107 (.bool true) ⟨(AG (by grind [Aa])),Z.xt⟩)
 refine .d<|.s<|.ct<|.sk<|.s<|.b 1<|.s<|.g<|.r 1<|gxd s1 k fun af E ao=>RG.Ix 1 E Z<|Z.el 1 E fun ay az Z=>RG.Lh 0 0 Z<|.r 2<|.d<|.s<|.g<|.r 2<|gxd s2 k fun ag aa aq=>RG.Ix 2 aa Z<|Z.el 2 aa fun aA aB Z=>RG.Lh 0 0 Z<|.r 1<|.d<|.s<|.g<|.r 3<|RG.C0 (Ca af ag (Z.a 3) (Z.a 1)) Z fun w Z=>?_
 cases ar:(af==ag)
 ·exact .r 1<|.d<|.ct<|.s<|.g<|.r 1<|.d<|T.rt func107 results107 (.bool false) ⟨(AG (by grind [Aa])),Z.xt⟩
 exact .r 1<|.d<|.cf<|.sk<|.ib 1<|.g<|.it ((k:Int)+1)<|.r 1<|.d<|ab (k+1) _ _ AA (Z.to 0 [] 4) ⟨AB,(by grind)⟩ (by (simp only []; omega))
theorem Jy (a:Prt) (b:Prt) (h1:RepS w F a1 n1 c1 a.ids) (h2:RepS w F a2 n2 c2 a.blocks) (h3:RepS w F a3 n3 c3 b.ids) (h4:RepS w F a4 n4 c4 b.blocks)  : Calls Tryz.prog 106 [.agg #[.slice a1 n1 c1,.slice a2 n2 c2],.agg #[.slice a3 n3 c3,.slice a4 n4 c4]].toArray w (Al fun rv w'=>rv=.bool ((a==b))∧Ext w w'):=by
 cases h1.len
 cases h2.len
 cases h3.len
 cases h4.len
 refine goT func106 ?_
 have Z:=((((St.i0 F w).p h1).p h2).p h3).p h4
 have E:=h1.max
 have aa:=h2.max
 have ab:=h3.max
 have ac:=h4.max
 refine .s<|.g<|RG.Np Z fun af w Z=>RG.Np Z fun ag w Z=>.r 1<|.d<|.s<|.g<|.r 1<|RG.Lb 1 Z<|.r 1<|RG.Lb 0 Z<|RG.C0 (Dw a.ids b.ids (Z.a 3) (Z.a 1)) Z fun w Z=>?_
 cases ae:(a.ids==b.ids)
 ·exact .r 8<|.d<|T.rt func106 results106 (.bool false) ⟨(AG (by cases a; cases b; grind)),Z.xt⟩
 exact .r 2<|RG.Lb 1 Z<|.r 1<|RG.Lb 0 Z<|RG.C0 (Hl a.blocks b.blocks (Z.a 2) (Z.a 0)) Z fun w Z=>.r 2<|.d<|T.rt func106 results106 (.bool (a.blocks==b.blocks)) ⟨(AG (by cases a; cases b; grind)),Z.xt⟩
theorem IV (s1:List Prt) (s2:List Prt) (h1:RepS w F a1 n1 c1 s1) (h2:RepS w F a2 n2 c2 s2)  : Calls Tryz.prog 105 [.slice a1 n1 c1,.slice a2 n2 c2,.func (.func 106) #[] #[]].toArray w (Al fun rv w'=>rv=.bool ((s1==s2))∧Ext w w'):=by
 cases h1.len
 cases h2.len
 refine goT func105 ?_
 have Z:=((St.i0 F w).p h1).p h2
 have aj:=h1.max
 refine .s<|.g<|.r 1<|.d<|.s<|.s<|.g<|.r 4<|.ne (s1.length:Int) (s2.length:Int) (fun ac=>.d<|.ct<|.s<|.g<|.r 1<|.d<|T.rt func105 results105 (.bool false) ⟨(AG (by grind [Aa])),Z.xt⟩) fun ac=>.d<|.cf<|.sk<|.s<|.s<|.g<|.r 3<|.d<|.b 0<|T.Lp (0:Nat) (fun k=>([(1,.slice a2 s2.length c2),(2,.func (.func 106) #[] #[]),(15,.slice a1 s1.length c1),(16,vI (s1.length:Int)),(17,vI (k:Int))],[],[],s1.length - k,(k≤s1.length)∧(s1.drop k=s2.drop k↔s1=s2))) [] Z ⟨AD,AD⟩ ?_
 rintro k ax w Z ⟨al,am⟩ ab
 refine .s<|.g<|.bp ((k:Int)< (s1.length:Int)) (fun ae=>?_) (fun ae=>.d<|.s<|.cf<|.x 0 rfl<|.s<|.g<|.r 1<|.d<|T.rt func105 results105 (.bool true) ⟨(AG (by grind [Aa])),Z.xt⟩)
 refine .d<|.s<|.ct<|.sk<|.s<|.b 1<|.s<|.g<|.r 1<|gxd s1 k fun af E ao=>RG.Ix 1 E Z<|Z.el 1 E fun ay az aA aB Z=>RG.Lg 0 0 Z<|RG.Np Z fun aC w Z=>.r 1<|RG.Ss 0 Z fun w Z=>.d<|.s<|.g<|.r 2<|gxd s2 k fun ag aa aq=>RG.Ix 3 aa Z<|Z.el 3 aa fun aD aE aF aG Z=>RG.Lg 0 0 Z<|RG.Np Z fun aH w Z=>RG.Ss 0 Z fun w Z=>.d<|.s<|.g<|.r 1<|RG.Ln 1 Z<|RG.Ln 0 Z<|RG.C0 (Jy af ag (Z.a 4) (Z.a 5) (Z.a 1) (Z.a 2)) Z fun w Z=>?_
 cases ar:(af==ag)
 ·exact .r 1<|.d<|.ct<|.s<|.g<|.r 1<|.d<|T.rt func105 results105 (.bool false) ⟨(AG (by grind [Aa])),Z.xt⟩
 exact .r 1<|.d<|.cf<|.sk<|.ib 1<|.g<|.it ((k:Int)+1)<|.r 1<|.d<|ab (k+1) _ _ AA (Z.to 2 [] 6) ⟨AB,(by grind)⟩ (by (simp only []; omega))
theorem Fk (d:Dsk) (h1:RepS w F a1 n1 c1 d.files) (h2:RepS w F a2 n2 c2 d.list) (h3:RepS w F a3 n3 c3 d.names)  : Calls Tryz.prog 63 [.agg #[.slice a1 n1 c1,.slice a2 n2 c2,.slice a3 n3 c3,.int .i64 d.next]].toArray w (Al fun rv w'=>rv=.bool (Ee d)∧Ext w w'):=by
 cases h1.len
 cases h2.len
 cases h3.len
 refine goT func63 ?_
 have Z:=(((St.i0 F w).p h1).p h2).p h3
 exact .s<|.g<|RG.Np Z fun ae w Z=>.r 1<|.d<|.s<|.g<|.r 1<|RG.Lb 0 Z<|.eq d.next 999 (fun E=>.r 7<|.d<|T.rt func63 results63 (.bool true) ⟨(AG (by exact SB ‹_›)),Z.xt⟩) fun E=>.r 2<|RG.Lb 0 Z<|.r 4<|.d<|T.rt func63 results63 (.bool ((d.files.length:Int)==20)) ⟨(AG (by exact Ts ‹_›)),Z.xt⟩
theorem Gr (s:Sto) (d:Dsk) (h1:RepS w F a1 n1 c1 s.idx.names) (h2:RepS w F a2 n2 c2 s.idx.AY) (h3:RepS w F a3 n3 c3 s.parts) (h4:RepS w F a4 n4 c4 s.mem) (h5:RepS w F a5 n5 c5 d.files) (h6:RepS w F a6 n6 c6 d.list) (h7:RepS w F a7 n7 c7 d.names) (p0:SG s) (p1:DD d):Calls Tryz.prog 52 [.agg #[.slice a1 n1 c1,.slice a2 n2 c2,.slice a3 n3 c3,.slice a4 n4 c4],.agg #[.slice a5 n5 c5,.slice a6 n6 c6,.slice a7 n7 c7,.int .i64 d.next]].toArray w (Al fun rv w'=>rv=.bool (CQ d s)∧Ext w w'):=by
 cases h1.len
 cases h2.len
 cases h3.len
 cases h4.len
 cases h5.len
 cases h6.len
 cases h7.len
 refine goT func52 ?_
 have Z:=(((((((St.i0 F w).p h1).p h2).p h3).p h4).p h5).p h6).p h7
 have ak:=h7.max
 refine .s<|.g<|RG.Np Z fun ar w Z=>RG.Np Z fun ax w Z=>.r 1<|.d<|.s<|.s<|T.Gd 14 Z fun w Z=>GA.Ln 0 1 Z<|GA.C0 1 Z (fun w Z=>EY s (Z.a 6) (Z.a 5) (Z.a 4) (Z.a 3) p0) ?_
 cases al:(nmB s.idx.names&&Ac s)
 ·exact .r [2,3,4,5,6,7,8]<|GA.Sk Z fun w Z=>.r 3<|.d<|.ct<|.s<|.g<|.r 1<|.d<|T.rt func52 results52 (.bool false) ⟨(AG (by exact VE ‹_›)),Z.xt⟩
 refine .r [2,3]<|GA.Ln 4 0 Z<|GA.C0 5 Z (fun w Z=>C5 d (Z.a 2) (Z.a 1) (Z.a 0) p1) ?_
 cases am:(Ax d)
 ·exact .r [6,7,8]<|GA.Sk Z fun w Z=>.r 3<|.d<|.ct<|.s<|.g<|.r 1<|.d<|T.rt func52 results52 (.bool false) ⟨(AG (by exact VD ‹_›)),Z.xt⟩
 refine .r [6,7,8,9]<|GA.Lb 10 1 Z<|GA.Ln 11 0 Z<|.go 12<|GE.Cg (fun w Z=>EK d (Z.a 2) (Z.a 1) (Z.a 0) p1 (EV (C2 ‹_›).2.2.2)) Z ?_
 rintro w ay w Z ⟨⟨aa,ac,ao⟩,E⟩
 refine ⟨Ext.chg E,?_⟩
 refine GA.vS Z ac E ?_
 intro az aA aB aC aD aE aF aG Z
 refine .r [13]<|GA.Dn Z fun w Z=>RG.C0 (IV s.parts aa.parts (Z.a 8) (Z.a 2)) Z fun w Z=>?_
 cases aq:(s.parts==aa.parts)
 ·exact .r 2<|.d<|.ct<|.s<|.g<|.r 1<|.d<|T.rt func52 results52 (.bool false) ⟨(AG (by exact VG ‹_› ‹_›)),Z.xt⟩
 exact .r 2<|.d<|.cf<|.sk<|.s<|.g<|.r 1<|RG.Lb 0 Z<|.r 2<|.d<|.s<|T.Gd 14 Z fun w Z=>.r [0,1,2]<|GA.Lb 3 1 Z<|.r [4]<|GA.F6 (i:=5) ((d.names.length:Int)≤(s.idx.names.length:Int)) AA (fun ab=>.r [6,7]<|GA.Lb 8 0 Z<|.r [9,10]<|GA.Lb 11 1 Z<|.r [12]<|GA.Sb (hhi:=bdS AA) 13 10 0 d.names.length s.idx.names Z fun aH aI Z=>GA.Dn Z fun w Z=>RG.C0 (IU d.names ((s.idx.names.take d.names.length).drop 0) (Z.a 5) (Z.a 0)) Z fun w Z=>.r 2<|.d<|T.rt func52 results52 (.bool (d.names==((s.idx.names.take d.names.length).drop 0))) ⟨(AG (by exact VJ ‹_› ‹_› ‹_› ‹_› AD)),Z.xt⟩) fun ab=>.r [6]<|GA.Sk Z fun w Z=>.r 3<|.d<|T.rt func52 results52 (.bool false) ⟨(AG (by exact VI ‹_›)),Z.xt⟩
theorem IW (d:Dsk) (s:Sto) (h1:RepS w F a1 n1 c1 d.files) (h2:RepS w F a2 n2 c2 d.list) (h3:RepS w F a3 n3 c3 d.names) (h4:RepS w F a4 n4 c4 s.idx.names) (h5:RepS w F a5 n5 c5 s.idx.AY) (h6:RepS w F a6 n6 c6 s.parts) (h7:RepS w F a7 n7 c7 s.mem) (p0:DD d) (p1:SG s):Calls Tryz.prog 27 [.agg #[.slice a1 n1 c1,.slice a2 n2 c2,.slice a3 n3 c3,.int .i64 d.next],.agg #[.slice a4 n4 c4,.slice a5 n5 c5,.slice a6 n6 c6,.slice a7 n7 c7]].toArray w (Al fun rv w'=>VL (ge w.heap.size) w' (Af d s:List Stp) rv∧Ext w w'):=by
 cases h1.len
 cases h2.len
 cases h3.len
 cases h4.len
 cases h5.len
 cases h6.len
 cases h7.len
 refine goT func27 ?_
 have Z:=(((((((St.i0 F w).p h1).p h2).p h3).p h4).p h5).p h6).p h7
 have af:=h2.max
 have ah:=h4.max
 have ak:=h7.max
 refine .s<|.g<|RG.Np Z fun ab w Z=>RG.Np Z fun ac w Z=>.r 1<|.d<|.s<|.s<|.g<|RG.Ln 0 Z<|RG.Ln 1 Z<|RG.C0 (Gr s d (Z.a 3) (Z.a 2) (Z.a 1) (Z.a 0) (Z.a 6) (Z.a 5) (Z.a 4) p1 p0) Z fun w Z=>?_
 cases al:(CQ d s)
 ·exact .r 17<|.d<|.ct<|.s<|.g<|RG.N0 Stp 0 Z fun bd w Z=>.r 1<|.d<|T.Rt func27 results27 ⟨Z.rM 0 ([]:List Stp) (by exact V6 ‹_›),Z.xt⟩
 refine .r 3<|RG.Lb 0 Z<|.r 1<|.eq (s.mem.length:Int) 0 (fun E=>.r 11<|.d<|.ct<|.s<|.g<|RG.N0 Stp 0 Z fun bg w Z=>.r 1<|.d<|T.Rt func27 results27 ⟨Z.rM 0 ([]:List Stp) (by exact VK (.inl ‹_›)),Z.xt⟩) fun E=>.r 3<|RG.Lb 1 Z<|.r 1<|.eq (d.list.length:Int) 6 (fun aa=>.r 5<|.d<|.ct<|.s<|.g<|RG.N0 Stp 0 Z fun bh w Z=>.r 1<|.d<|T.Rt func27 results27 ⟨Z.rM 0 ([]:List Stp) (by exact VK (.inr (.inl ‹_›))),Z.xt⟩) fun aa=>.r 2<|RG.Ln 1 Z<|RG.C0 (Fk d (Z.a 6) (Z.a 5) (Z.a 4)) Z fun w Z=>?_
 cases am:(Ee d)
 ·refine .r 1<|.d<|.cf<|.sk<|.s<|T.GS 18 [ac,ab] Z fun _ w Z=>.r [0]<|GA.Lb (q:=1) 1 1 Z<|GA.Ln 2 0 Z<|.r [6]<|GA.Lb (q:=1) 7 1 Z<|.r [9]<|GA.Lb (q:=1) 10 1 Z<|.r [13,14]<|GA.Lb 15 0 Z<|GE.many [3,5,11] AA (all_cons ?_ (all_cons ?_ (all_cons ?_ all_nil)))
  ·refine GE.CS (fun w Z=>Bp s (Z.a 3) (Z.a 2) (Z.a 1) (Z.a 0) (StoK.of (C6 p1 ‹_›) (C9 ‹_›).sk).row (StoK.of (C6 p1 ‹_›) (C9 ‹_›).sk).Jn.Ip (by have:=p1.nm2; omega)) Z fun bi bj bk bm w Z=>.r [4]<|.tw 5 11 ?_ ?_
   ·refine GE.N0 Int 0 Z fun bn w Z=>.tw 8 11 ?_ ?_
    ·exact GE.An (hs:=by (simp only [List.nil_append,List.length_nil,List.length_append,List.length_cons] <;> exact (by have:=p0.nl; omega))) (hf:=.inr Av) 0 7 ([]:List Int) d.list [1,2] Z fun bo bq w Z=>.go 11<|GE.Nb 1 Z fun br w Z=>.go 12<|GE.Ap (hs:=by (simp only [List.nil_append,List.length_nil,List.length_append,List.length_cons] <;> exact (by have:=p0.nl; omega))) 0 0 ([]++d.list) d.next [] [1,2] Z fun bt bu w Z=>.go 16<|GE.CO 0 (fun w Z=>Ae s.idx.names (Z.a 5) (by have:=p1.ix.g.len; omega) (by (intro n hn; have:=(p1.ix.g.sz n hn).1; omega))) Z fun bv bw w Z=>.r [17]<|GA.Do Z fun w Z=>RG.Nl 0 ([(⟨1,d.next,(⟨(Ai s.mem).ids,(Ai s.mem).blocks⟩:Prt),([]:List Int),([]:List (List Tag))⟩:Stp),(⟨2,0,(⟨([]:List Int),([]:List (List Row))⟩:Prt),(([]++d.list)++[d.next]),s.idx.names⟩:Stp)]:List Stp) [[6,7,5,4],[1,0,3,2]] ((((((Z.nl Int).nl (List Tag)).sl 1).sl 0).nl Int).nl (List Row)) fun bz w Z=>.r 1<|.d<|T.Rt func27 results27 ⟨Z.rM 0 ([(⟨1,d.next,(⟨(Ai s.mem).ids,(Ai s.mem).blocks⟩:Prt),([]:List Int),([]:List (List Tag))⟩:Stp),(⟨2,0,(⟨([]:List Int),([]:List (List Row))⟩:Prt),(([]++d.list)++[d.next]),s.idx.names⟩:Stp)]:List Stp) (by exact Ns ‹_› ‹_› ‹_› ‹_› p0),Z.xt⟩
    exact GE.Nb 1 Z fun bA w Z=>.go 8<|GE.An (hs:=by (simp only [List.nil_append,List.length_nil,List.length_append,List.length_cons] <;> exact (by have:=p0.nl; omega))) (hf:=.inr Av) 1 7 ([]:List Int) d.list [2,3] Z fun bB bC w Z=>.go 12<|GE.Ap (hs:=by (simp only [List.nil_append,List.length_nil,List.length_append,List.length_cons] <;> exact (by have:=p0.nl; omega))) 0 0 ([]++d.list) d.next [] [1,2] Z fun bD bE w Z=>.go 16<|GE.CO 0 (fun w Z=>Ae s.idx.names (Z.a 5) (by have:=p1.ix.g.len; omega) (by (intro n hn; have:=(p1.ix.g.sz n hn).1; omega))) Z fun bF bG w Z=>.r [17]<|GA.Do Z fun w Z=>RG.Nl 0 ([(⟨1,d.next,(⟨(Ai s.mem).ids,(Ai s.mem).blocks⟩:Prt),([]:List Int),([]:List (List Tag))⟩:Stp),(⟨2,0,(⟨([]:List Int),([]:List (List Row))⟩:Prt),(([]++d.list)++[d.next]),s.idx.names⟩:Stp)]:List Stp) [[6,7,5,4],[1,0,3,2]] ((((((Z.nl Int).nl (List Tag)).sl 1).sl 0).nl Int).nl (List Row)) fun bH w Z=>.r 1<|.d<|T.Rt func27 results27 ⟨Z.rM 0 ([(⟨1,d.next,(⟨(Ai s.mem).ids,(Ai s.mem).blocks⟩:Prt),([]:List Int),([]:List (List Tag))⟩:Stp),(⟨2,0,(⟨([]:List Int),([]:List (List Row))⟩:Prt),(([]++d.list)++[d.next]),s.idx.names⟩:Stp)]:List Stp) (by exact Ns ‹_› ‹_› ‹_› ‹_› p0),Z.xt⟩
   exact GE.Nb 1 Z fun bI w Z=>.go 5<|GE.N0 Int 0 Z fun bJ w Z=>.go 8<|GE.An (hs:=by (simp only [List.nil_append,List.length_nil,List.length_append,List.length_cons] <;> exact (by have:=p0.nl; omega))) (hf:=.inr Av) 0 7 ([]:List Int) d.list [2,3] Z fun bK bL w Z=>.go 12<|GE.Ap (hs:=by (simp only [List.nil_append,List.length_nil,List.length_append,List.length_cons] <;> exact (by have:=p0.nl; omega))) 0 1 ([]++d.list) d.next [] [1,2] Z fun bM bN w Z=>.go 16<|GE.CO 0 (fun w Z=>Ae s.idx.names (Z.a 5) (by have:=p1.ix.g.len; omega) (by (intro n hn; have:=(p1.ix.g.sz n hn).1; omega))) Z fun bO bP w Z=>.r [17]<|GA.Do Z fun w Z=>RG.Nl 0 ([(⟨1,d.next,(⟨(Ai s.mem).ids,(Ai s.mem).blocks⟩:Prt),([]:List Int),([]:List (List Tag))⟩:Stp),(⟨2,0,(⟨([]:List Int),([]:List (List Row))⟩:Prt),(([]++d.list)++[d.next]),s.idx.names⟩:Stp)]:List Stp) [[6,7,5,4],[1,0,3,2]] ((((((Z.nl Int).nl (List Tag)).sl 1).sl 0).nl Int).nl (List Row)) fun bQ w Z=>.r 1<|.d<|T.Rt func27 results27 ⟨Z.rM 0 ([(⟨1,d.next,(⟨(Ai s.mem).ids,(Ai s.mem).blocks⟩:Prt),([]:List Int),([]:List (List Tag))⟩:Stp),(⟨2,0,(⟨([]:List Int),([]:List (List Row))⟩:Prt),(([]++d.list)++[d.next]),s.idx.names⟩:Stp)]:List Stp) (by exact Ns ‹_› ‹_› ‹_› ‹_› p0),Z.xt⟩
  ·refine GE.N0 Int 0 Z fun bR w Z=>.tw 3 11 ?_ ?_
   ·refine GE.CS (fun w Z=>Bp s (Z.a 3) (Z.a 2) (Z.a 1) (Z.a 0) (StoK.of (C6 p1 ‹_›) (C9 ‹_›).sk).row (StoK.of (C6 p1 ‹_›) (C9 ‹_›).sk).Jn.Ip (by have:=p1.nm2; omega)) Z fun bS bT bU bV w Z=>.r [4]<|.tw 8 11 ?_ ?_
    ·exact GE.An (hs:=by (simp only [List.nil_append,List.length_nil,List.length_append,List.length_cons] <;> exact (by have:=p0.nl; omega))) (hf:=.inr Av) 0 7 ([]:List Int) d.list [1,2] Z fun bW bX w Z=>.go 11<|GE.Nb 1 Z fun bY w Z=>.go 12<|GE.Ap (hs:=by (simp only [List.nil_append,List.length_nil,List.length_append,List.length_cons] <;> exact (by have:=p0.nl; omega))) 0 0 ([]++d.list) d.next [] [1,2] Z fun bZ b0 w Z=>.go 16<|GE.CO 0 (fun w Z=>Ae s.idx.names (Z.a 5) (by have:=p1.ix.g.len; omega) (by (intro n hn; have:=(p1.ix.g.sz n hn).1; omega))) Z fun b6 b7 w Z=>.r [17]<|GA.Do Z fun w Z=>RG.Nl 0 ([(⟨1,d.next,(⟨(Ai s.mem).ids,(Ai s.mem).blocks⟩:Prt),([]:List Int),([]:List (List Tag))⟩:Stp),(⟨2,0,(⟨([]:List Int),([]:List (List Row))⟩:Prt),(([]++d.list)++[d.next]),s.idx.names⟩:Stp)]:List Stp) [[6,7,5,4],[1,0,3,2]] ((((((Z.nl Int).nl (List Tag)).sl 1).sl 0).nl Int).nl (List Row)) fun b8 w Z=>.r 1<|.d<|T.Rt func27 results27 ⟨Z.rM 0 ([(⟨1,d.next,(⟨(Ai s.mem).ids,(Ai s.mem).blocks⟩:Prt),([]:List Int),([]:List (List Tag))⟩:Stp),(⟨2,0,(⟨([]:List Int),([]:List (List Row))⟩:Prt),(([]++d.list)++[d.next]),s.idx.names⟩:Stp)]:List Stp) (by exact Ns ‹_› ‹_› ‹_› ‹_› p0),Z.xt⟩
    exact GE.Nb 1 Z fun b9 w Z=>.go 8<|GE.An (hs:=by (simp only [List.nil_append,List.length_nil,List.length_append,List.length_cons] <;> exact (by have:=p0.nl; omega))) (hf:=.inr Av) 1 7 ([]:List Int) d.list [2,3] Z fun cd ce w Z=>.go 12<|GE.Ap (hs:=by (simp only [List.nil_append,List.length_nil,List.length_append,List.length_cons] <;> exact (by have:=p0.nl; omega))) 0 0 ([]++d.list) d.next [] [1,2] Z fun cg ci w Z=>.go 16<|GE.CO 0 (fun w Z=>Ae s.idx.names (Z.a 5) (by have:=p1.ix.g.len; omega) (by (intro n hn; have:=(p1.ix.g.sz n hn).1; omega))) Z fun cj ck w Z=>.r [17]<|GA.Do Z fun w Z=>RG.Nl 0 ([(⟨1,d.next,(⟨(Ai s.mem).ids,(Ai s.mem).blocks⟩:Prt),([]:List Int),([]:List (List Tag))⟩:Stp),(⟨2,0,(⟨([]:List Int),([]:List (List Row))⟩:Prt),(([]++d.list)++[d.next]),s.idx.names⟩:Stp)]:List Stp) [[6,7,5,4],[1,0,3,2]] ((((((Z.nl Int).nl (List Tag)).sl 1).sl 0).nl Int).nl (List Row)) fun cm w Z=>.r 1<|.d<|T.Rt func27 results27 ⟨Z.rM 0 ([(⟨1,d.next,(⟨(Ai s.mem).ids,(Ai s.mem).blocks⟩:Prt),([]:List Int),([]:List (List Tag))⟩:Stp),(⟨2,0,(⟨([]:List Int),([]:List (List Row))⟩:Prt),(([]++d.list)++[d.next]),s.idx.names⟩:Stp)]:List Stp) (by exact Ns ‹_› ‹_› ‹_› ‹_› p0),Z.xt⟩
   exact GE.Nb 1 Z fun co w Z=>.go 3<|GE.CS (fun w Z=>Bp s (Z.a 3) (Z.a 2) (Z.a 1) (Z.a 0) (StoK.of (C6 p1 ‹_›) (C9 ‹_›).sk).row (StoK.of (C6 p1 ‹_›) (C9 ‹_›).sk).Jn.Ip (by have:=p1.nm2; omega)) Z fun cp cq cr cu w Z=>.r [4]<|.go 8<|GE.An (hs:=by (simp only [List.nil_append,List.length_nil,List.length_append,List.length_cons] <;> exact (by have:=p0.nl; omega))) (hf:=.inr Av) 1 7 ([]:List Int) d.list [2,3] Z fun ao aq w Z=>.go 12<|GE.Ap (hs:=by (simp only [List.nil_append,List.length_nil,List.length_append,List.length_cons] <;> exact (by have:=p0.nl; omega))) 0 0 ([]++d.list) d.next [] [1,2] Z fun ar ax w Z=>.go 16<|GE.CO 0 (fun w Z=>Ae s.idx.names (Z.a 5) (by have:=p1.ix.g.len; omega) (by (intro n hn; have:=(p1.ix.g.sz n hn).1; omega))) Z fun ay az w Z=>.r [17]<|GA.Do Z fun w Z=>RG.Nl 0 ([(⟨1,d.next,(⟨(Ai s.mem).ids,(Ai s.mem).blocks⟩:Prt),([]:List Int),([]:List (List Tag))⟩:Stp),(⟨2,0,(⟨([]:List Int),([]:List (List Row))⟩:Prt),(([]++d.list)++[d.next]),s.idx.names⟩:Stp)]:List Stp) [[6,7,5,4],[1,0,3,2]] ((((((Z.nl Int).nl (List Tag)).sl 1).sl 0).nl Int).nl (List Row)) fun aA w Z=>.r 1<|.d<|T.Rt func27 results27 ⟨Z.rM 0 ([(⟨1,d.next,(⟨(Ai s.mem).ids,(Ai s.mem).blocks⟩:Prt),([]:List Int),([]:List (List Tag))⟩:Stp),(⟨2,0,(⟨([]:List Int),([]:List (List Row))⟩:Prt),(([]++d.list)++[d.next]),s.idx.names⟩:Stp)]:List Stp) (by exact Ns ‹_› ‹_› ‹_› ‹_› p0),Z.xt⟩
  refine GE.Nb 1 Z fun aB w Z=>.tw 3 5 ?_ ?_
  ·exact GE.CS (fun w Z=>Bp s (Z.a 3) (Z.a 2) (Z.a 1) (Z.a 0) (StoK.of (C6 p1 ‹_›) (C9 ‹_›).sk).row (StoK.of (C6 p1 ‹_›) (C9 ‹_›).sk).Jn.Ip (by have:=p1.nm2; omega)) Z fun aC aD aE aF w Z=>.r [4]<|.go 5<|GE.N0 Int 0 Z fun aG w Z=>.go 8<|GE.An (hs:=by (simp only [List.nil_append,List.length_nil,List.length_append,List.length_cons] <;> exact (by have:=p0.nl; omega))) (hf:=.inr Av) 0 7 ([]:List Int) d.list [2,3] Z fun aH aI w Z=>.go 12<|GE.Ap (hs:=by (simp only [List.nil_append,List.length_nil,List.length_append,List.length_cons] <;> exact (by have:=p0.nl; omega))) 0 1 ([]++d.list) d.next [] [1,2] Z fun aJ aK w Z=>.go 16<|GE.CO 0 (fun w Z=>Ae s.idx.names (Z.a 5) (by have:=p1.ix.g.len; omega) (by (intro n hn; have:=(p1.ix.g.sz n hn).1; omega))) Z fun aL aM w Z=>.r [17]<|GA.Do Z fun w Z=>RG.Nl 0 ([(⟨1,d.next,(⟨(Ai s.mem).ids,(Ai s.mem).blocks⟩:Prt),([]:List Int),([]:List (List Tag))⟩:Stp),(⟨2,0,(⟨([]:List Int),([]:List (List Row))⟩:Prt),(([]++d.list)++[d.next]),s.idx.names⟩:Stp)]:List Stp) [[6,7,5,4],[1,0,3,2]] ((((((Z.nl Int).nl (List Tag)).sl 1).sl 0).nl Int).nl (List Row)) fun aN w Z=>.r 1<|.d<|T.Rt func27 results27 ⟨Z.rM 0 ([(⟨1,d.next,(⟨(Ai s.mem).ids,(Ai s.mem).blocks⟩:Prt),([]:List Int),([]:List (List Tag))⟩:Stp),(⟨2,0,(⟨([]:List Int),([]:List (List Row))⟩:Prt),(([]++d.list)++[d.next]),s.idx.names⟩:Stp)]:List Stp) (by exact Ns ‹_› ‹_› ‹_› ‹_› p0),Z.xt⟩
  exact GE.N0 Int 0 Z fun aO w Z=>.go 3<|GE.CS (fun w Z=>Bp s (Z.a 3) (Z.a 2) (Z.a 1) (Z.a 0) (StoK.of (C6 p1 ‹_›) (C9 ‹_›).sk).row (StoK.of (C6 p1 ‹_›) (C9 ‹_›).sk).Jn.Ip (by have:=p1.nm2; omega)) Z fun aP aQ aR aS w Z=>.r [4]<|.go 8<|GE.An (hs:=by (simp only [List.nil_append,List.length_nil,List.length_append,List.length_cons] <;> exact (by have:=p0.nl; omega))) (hf:=.inr Av) 0 7 ([]:List Int) d.list [2,3] Z fun aT aU w Z=>.go 12<|GE.Ap (hs:=by (simp only [List.nil_append,List.length_nil,List.length_append,List.length_cons] <;> exact (by have:=p0.nl; omega))) 0 1 ([]++d.list) d.next [] [1,2] Z fun aV aW w Z=>.go 16<|GE.CO 0 (fun w Z=>Ae s.idx.names (Z.a 5) (by have:=p1.ix.g.len; omega) (by (intro n hn; have:=(p1.ix.g.sz n hn).1; omega))) Z fun aX aY w Z=>.r [17]<|GA.Do Z fun w Z=>RG.Nl 0 ([(⟨1,d.next,(⟨(Ai s.mem).ids,(Ai s.mem).blocks⟩:Prt),([]:List Int),([]:List (List Tag))⟩:Stp),(⟨2,0,(⟨([]:List Int),([]:List (List Row))⟩:Prt),(([]++d.list)++[d.next]),s.idx.names⟩:Stp)]:List Stp) [[6,7,5,4],[1,0,3,2]] ((((((Z.nl Int).nl (List Tag)).sl 1).sl 0).nl Int).nl (List Row)) fun aZ w Z=>.r 1<|.d<|T.Rt func27 results27 ⟨Z.rM 0 ([(⟨1,d.next,(⟨(Ai s.mem).ids,(Ai s.mem).blocks⟩:Prt),([]:List Int),([]:List (List Tag))⟩:Stp),(⟨2,0,(⟨([]:List Int),([]:List (List Row))⟩:Prt),(([]++d.list)++[d.next]),s.idx.names⟩:Stp)]:List Stp) (by exact Ns ‹_› ‹_› ‹_› ‹_› p0),Z.xt⟩
 exact .r 1<|.d<|.ct<|.s<|.g<|RG.N0 Stp 0 Z fun ba w Z=>.r 1<|.d<|T.Rt func27 results27 ⟨Z.rM 0 ([]:List Stp) (by exact VK (.inr (.inr ‹_›))),Z.xt⟩
end Go.Proofs.YtckdhcbbgmiccaaGreat
namespace Go.Proofs.YtckdhcbbgmiccaaGreat
theorem V7 {α:Type}[BEq α] [LawfulBEq α] {a b:List α}{k:Nat}{x y:α}(h:a.drop k=b.drop k↔a=b) (ha:a.drop k=x::a.drop (k+1)) (hb:b.drop k=y::b.drop (k+1)) (e:(x==y)=true):a.drop (k+1)=b.drop (k+1)↔a=b:=by
 rw [← h,ha,hb,eq_of_beq e]
 simp
theorem V8 {α:Type}[BEq α] [LawfulBEq α] {a b:List α}{k:Nat}{x y:α}(h:a.drop k=b.drop k↔a=b) (ha:a.drop k=x::a.drop (k+1)) (hb:b.drop k=y::b.drop (k+1)) (e:(x==y)=false):a≠b:=fun e2=>by
 have:=h.2 e2
 rw [ha,hb,List.cons.injEq] at this
 exact beq_eq_false_iff_ne.1 e this.1
end Go.Proofs.YtckdhcbbgmiccaaGreat
namespace Go.Proofs.YtckdhcbbgmiccaaGreat
section
variable {α:Type} [Rep α] {w:World} {G F:Nat→Prop} {M ML M2:List Nat} {o:Option Addr} {n c r s b x:Nat} {t:TypeId} {xs:List α}
theorem RepS.IY (h:RepS w (nin F M) o n c xs):RepS w (nin (fo F s) M) o n c xs:=h.Bi fun _ _ hF=>⟨.inl hF.1,hF.2⟩
theorem RepS.toM (h:RepS w (nin G M) o n c xs) (hs:∀ b∈ML,b∈M):RepS w (nin (nin G M) ML) o n c xs:=h.Bi fun k _ hk=>⟨hk,fun e=>hk.2 (hs k e)⟩
theorem Own.toM (h:Own w r t (nin G M) n c xs) (hs:∀ b∈ML,b∈M):Own w r t (nin (nin G M) ML) n c xs:=h.Bi fun k _ hk=>⟨hk,fun e=>hk.2 (hs k e)⟩
theorem Cov.mkI {L:List Nat}(h:b∈L):Cov (ins L) w b:=⟨.inl h⟩
theorem JG (h:Cov (ins [b,r]) w x) (hn:Nb x b):OrB x r w.heap.size:=by
 rcases h.or with h | h
 ·have h2:x∈[b,r]:=h
  rcases List.mem_cons.1 h2 with rfl | h2
  ·exact absurd rfl hn.ne
  ·simp at h2
   exact .inl h2
 ·exact .inr h
theorem SC {k:Nat}(h:nin (fo (nin G M) s) ML k) (hM:∀ b∈M,b< s) (hG:∀ b,s≤b→G b) (h2:∀ b∈M2,b∈ML∨b∈M):nin G M2 k:=by
 refine ⟨?_,fun hm=>?_⟩
 ·rcases h.1 with h1 | h1
  ·exact h1.1
  ·exact hG _ h1
 ·rcases h2 k hm with h3 | h3
  ·exact h.2 h3
  ·rcases h.1 with h1 | h1
   ·exact h1.2 h3
   ·have:=hM k h3; omega
theorem RepS.bxM (h:RepS w (nin (fo (nin G M) s) ML) o n c xs) (hM:∀ b∈M,b< s) (hG:∀ b,s≤b→G b) (h2:∀ b∈M2,b∈ML∨b∈M):RepS w (nin G M2) o n c xs:=h.Bi fun _ _ hk=>SC hk hM hG h2
theorem Own.bxM (h:Own w r t (nin (fo (nin G M) s) ML) n c xs) (hM:∀ b∈M,b< s) (hG:∀ b,s≤b→G b) (h2:∀ b∈M2,b∈ML∨b∈M):Own w r t (nin G M2) n c xs:=h.Bi fun _ _ hk=>SC hk hM hG h2
end
theorem Own.We {w:World}{r:Nat}{t:TypeId}{F:Nat→Prop}{n c i:Nat}{xs:List Fil}{cs:List Value}(h:Own w r t F n c xs) (hB:Box w r t cs):∀ v,i+(n - i)≤n→v∈(cs.drop (i * 3)).take ((n - i) * 3)→Go.Proofs.YtckdhcbbgmiccaaGreat.DP v=true:=by
 intro v hin hv
 obtain ⟨k,hk⟩:=List.mem_iff_getElem?.1 hv
 rw [List.getElem?_take] at hk
 split at hk
 ·rename_i hlt
  rw [List.getElem?_drop] at hk
  have hn:=h.len
  have hj:i+k / 3< xs.length:=by omega
  obtain ⟨c1,g1,g2⟩:=h.elem (i+k / 3) xs[i+k / 3] (AU hj)
  have hl:c1.length=3:=Rep.len g1
  have hk2:k % 3< c1.length:=by omega
  have h3:=g2 (k % 3) c1[k % 3] (AU hk2)
  have hz:Rep.sz Fil=3:=rfl
  unfold Box at hB
  rw [add_lit,hz] at h3
  simp only [World.cell?,hB] at h3
  have e:(i+k / 3) * 3+k % 3=i * 3+k:=by omega
  rw [e] at h3
  have h4:cs[i * 3+k]? = some c1[k % 3]:=by simpa using h3
  rw [hk] at h4
  cases h4
  exact Rep.flat g1 _ (List.getElem_mem hk2)
 ·cases hk
theorem SE {P:Program}{T ty t:TypeId}{sz:Nat}{w:World}{r o c m:Nat}{cs:List Value}(hT:Tl P T t sz=true) (hB:Box w r t cs) (hm:0< m) (hfit:o+m * sz≤cs.length) :
 ∃ vs w',(Builtin.clear_ #[T] ty #[.slice (some ⟨r,o,none⟩) m c]).run P w=.ok (.tuple #[]) w'∧vs.length=m * sz∧Box w' r t (Az cs o vs)∧Chg (one r) w w':=by
 unfold Tl at hT
 simp only [AW] at hT
 obtain ⟨h1,h2⟩:=hT
 split at h1
 ·rename_i e he
  have:=Nat.eq_of_beq_eq_true h1
  subst this
  split at h2
  ·rename_i inf hinf
   split at h2
   ·rename_i z hz
    simp only [AW,List.all_eq_true] at h2
    have hsz:=Nat.eq_of_beq_eq_true h2.1
    have hl:(Builtin.zeroCells z.cells m).toList.length=m * sz:=by rw [Array.length_toList,size_zeroCells,hsz]
    have ho:∀ v∈(Builtin.zeroCells z.cells m).toList,DP v=true:=fun v hv=>by
     unfold Builtin.zeroCells at hv
     simp only [Array.toList_map,List.mem_map,Array.toList_range,List.mem_range] at hv
     obtain ⟨k,hk,rfl⟩:=hv
     have hk2:k % z.cells.size< z.cells.size:=Nat.mod_lt _ (Nat.pos_of_ne_zero (fun e=>by rw [e,Nat.mul_zero] at hk; omega))
     refine h2.2 _ ?_
     rw [getElem!_pos z.cells _ hk2]
     exact Array.getElem_mem_toList hk2
    obtain ⟨w',g1,g2,g3,_⟩:=hB.L7 (P:=P) (Builtin.zeroCells z.cells m).toList (o:=o) (i:=0) AB ho
    refine ⟨_,w',?_,hl,g2,g3⟩
    have hv:(zeroValue e).run P w=.ok z w:=by simp [zeroValue,typeInfo,hinf,hz,go_sem]
    unfold Builtin.clear_
    simp only [List.getElem?_toArray,List.getElem?_cons_zero]
    rw [AX (run_underlying he w)]
    obtain ⟨m',rfl⟩:∃ k,m=k+1:=⟨m - 1,by omega⟩
    simp only []
    rw [AX hv,AX g1]
    rfl
   ·cases h2
  ·cases h2
 ·cases h1
theorem Own.VM {α:Type}[Rep α] {w w':World}{r:Nat}{t:TypeId}{F:Nat→Prop}{n c i:Nat}{xs:List α}{cs cs':List Value}(h:Own w r t F n c xs) (hx:Chg (one r) w w') (hB:Box w r t cs) (hB':Box w' r t cs') (hl:cs'.length=c * Rep.sz α) (hi:i≤n)
 (hp:∀ p,p< i * Rep.sz α→cs'[p]? = cs[p]?):Own w' r t F i c (xs.take i):=by
 have hn:=h.len
 have hle:=h.le
 have hcap:=h.cap
 unfold Box at hB hB'
 refine ⟨by rw [List.length_take]; omega,by omega,hcap,⟨cs'.toArray,hB',by simpa using hl⟩,fun k x hk=>?_⟩
 have hfr:∀ b,b< w.heap.size→F b∧b≠r→(F b∧b≠r)∧w'.heap[b]? = w.heap[b]? := fun b hb hF=>⟨hF,hx.block b hb (fun e=>hF.2 e)⟩
 rw [List.getElem?_take] at hk
 split at hk
 ·rename_i hki
  obtain ⟨c1,g1,g2⟩:=h.elem k x hk
  refine ⟨c1,Rep.frame g1 hfr,fun u v hv=>?_⟩
  have h3:=g2 u v hv
  have hu:u< Rep.sz α:=by have:=(List.getElem?_eq_some_iff.1 hv).1; rw [Rep.len g1] at this; exact this
  have hm:k * Rep.sz α+Rep.sz α≤i * Rep.sz α:=by rw [← Nat.succ_mul]; exact Nat.mul_le_mul_right _ hki
  rw [add_lit] at h3 ⊢
  simp only [World.cell?,hB] at h3
  simp only [World.cell?,hB']
  have:=hp (k * Rep.sz α+u) AB
  simpa [this] using h3
 ·cases hk
theorem QT {cs v:List Value}{i p:Nat}(hp:p< i) (hi:i≤cs.length):(Az cs i v)[p]? = cs[p]? := by
 unfold Az
 rw [List.append_assoc,List.getElem?_append_left (by rw [List.length_take]; omega),List.getElem?_take,if_pos hp]
end Go.Proofs.YtckdhcbbgmiccaaGreat
namespace Go.Proofs.YtckdhcbbgmiccaaGreat
def V9:Dsk:=⟨[],[],[],0⟩
def Aj (d:Dsk) (st:List Stp) (c:Int):Dsk:=if Ax d=true∧0≤c∧Ax (toD d st c)=true then toD d st c else V9
def CE (d:Dsk):Dsk:=if Ax d then BJ d else V9
def Ag (d:Dsk) (a:Int):List Stp:=if Ax d then Ak d a else []
theorem D8 {d:Dsk}{a:Int}(h:Ax d=true):Ag d a=Ak d a:=by unfold Ag; rw [if_pos h]
theorem Nt {d:Dsk}{a:Int}(h:Ax d=false):Ag d a=[]:=by unfold Ag; rw [if_neg (by simp [h])]
structure StW (d:Dsk) (st:List Stp):Prop where
 len:st.length≤4
 sz:∀ x∈st,JR x
 pt:∀ x∈st,Cs x.part
 ok:∀ k:Nat,DD ((st.take k).foldl doD d)
theorem DD.UO {d:Dsk}(h:DD d){x:Stp}(hk:x.kind=1) (hf:d.files.length< 20) (hn:0≤x.num∧x.num≤998) (hp:PrtI x.part):DD (doD d x):=by
 rw [Ex hk]
 refine ⟨h.g,h.nl,by simp; omega,fun f hf=>?_,by show 0≤x.num+1∧x.num+1≤999; omega⟩
 rcases List.mem_append.1 hf with hf | hf
 ·exact h.file f hf
 ·simp at hf; subst hf; exact hp
theorem DD.WA {d:Dsk}(h:DD d){x:Stp}(hk:x.kind=2) (hl:x.list.length≤7) (hn:NmG x.names):DD (doD d x):=by
 rw [Gf hk]
 exact ⟨hn,hl,h.nf,h.file,h.next⟩
theorem Gs {d:Dsk}{n:Int}:∀ f∈Dp d n,f∈d.files:=fun f hf=>by
 unfold Dp at hf
 split at hf
 ·rcases List.mem_append.1 hf with hf | hf
  ·exact List.mem_of_mem_take hf
  ·exact List.mem_of_mem_drop hf
 ·exact hf
theorem Kx {d:Dsk}{n:Int}:(Dp d n).length≤d.files.length:=by
 unfold Dp
 split
 ·rw [List.length_append,List.length_take,List.length_drop]; omega
 ·exact Nat.le_refl _
theorem DD.WB {d:Dsk}(h:DD d){x:Stp}(hk:x.kind=3):DD (doD d x):=by
 rw [FA hk]
 exact ⟨h.g,h.nl,Nat.le_trans Kx h.nf,fun f hf=>h.file f (Gs f hf),h.next⟩
theorem SF {d:Dsk}{x:Stp}{xs:List Stp}(h0:DD d) (h:∀ k:Nat,DD ((xs.take k).foldl doD (doD d x))):∀ k:Nat,DD (((x::xs).take k).foldl doD d):=by
 intro k
 cases k with
 | zero=>exact h0
 | succ k=>exact h k
theorem SH {d:Dsk}(h0:DD d):∀ k:Nat,DD ((([]:List Stp).take k).foldl doD d):=by intro k; simpa using h0
theorem StW.nil {d:Dsk}(h:DD d):StW d []:=⟨by simp,by simp,by simp,SH h⟩
theorem IZ {x:Stp}(hl:x.list.length≤7) (hn:x.names.length≤7) (h5:∀ n∈x.names,n.length≤1000) (hx:-9000000≤x.num∧x.num≤9000000):JR x:=⟨by omega,by omega,h5,hx.1,hx.2⟩
theorem SI {ns:List (List Tag)}(h:NmG ns):∀ n∈ns,n.length≤1000:=fun n hn=>(h.sz n hn).1
theorem Lv:Cs ⟨[],[]⟩:=⟨rfl,by simp,by simp⟩
theorem Ia {d:Dsk}(h:DD d){l:List Int}{ns:List (List Tag)}{xs:List Stp}(hl:l.length≤7) (hn:NmG ns) (hx:∀ x∈xs,x.kind=3∧JR x∧x.part=⟨[],[]⟩) (h3:xs.length≤2):StW d (⟨2,0,⟨[],[]⟩,l,ns⟩ :: xs):=by
 refine ⟨by simp; omega,fun x hm=>?_,fun x hm=>?_,SF h ?_⟩
 ·rcases List.mem_cons.1 hm with rfl | hm
  ·exact IZ hl hn.len (SI hn) AD
  ·exact (hx x hm).2.1
 ·rcases List.mem_cons.1 hm with rfl | hm
  ·exact Lv
  ·rw [(hx x hm).2.2]; exact Lv
 ·have key:∀ (xs:List Stp) (d:Dsk),DD d→(∀ x∈xs,x.kind=3)→∀ k:Nat,DD ((xs.take k).foldl doD d):=by
   intro xs
   induction xs with
   | nil=>intro d h _; exact SH h
   | cons x xs ih=>intro d h hk; exact SF h (ih _ (h.WB (hk x AD)) (fun y hy=>hk y (by simp [hy])))
  exact key xs _ (h.WA rfl hl hn) (fun x hm=>(hx x hm).1)
theorem StW.UP {d:Dsk}(h:DD d){n:Int}{p:Prt}{xs:List Stp}(hf:d.files.length< 20) (hn:0≤n∧n≤998) (hp:PrtI p) (h3:xs.length≤3) (hx:StW (doD d ⟨1,n,p,[],[]⟩) xs):StW d (⟨1,n,p,[],[]⟩ :: xs):=by
 refine ⟨by simp; omega,fun x hm=>?_,fun x hm=>?_,SF h hx.ok⟩
 ·rcases List.mem_cons.1 hm with rfl | hm
  ·exact IZ AD AD AD (by show -9000000≤n∧n≤9000000; omega)
  ·exact hx.sz x hm
 ·rcases List.mem_cons.1 hm with rfl | hm
  ·exact hp.sz
  ·exact hx.pt x hm
theorem UQ {s:Sto}(h:SD s):NmG s.idx.names:=NmG.of h.nm h.nd
theorem Lw {s:Sto}(h:StoK s):PrtI (Ai s.mem):=PrtI.mem h.row
theorem JH {d:Dsk}{s:Sto}(h:DD d) (hs:SD s):StW d (Af d s)∧StW d (((Af d s).take (Af d s).length).drop 1):=by
 rw [List.take_length]
 unfold Af
 split
 ·rename_i hf
  have q:=C9 hf
  have hk:=C2 q.dk
  by_cases hc:s.mem.length=0∨d.list.length≥6∨d.next≥999∨d.files.length≥20
  ·have e:Aw d s=[]:=by unfold Aw; rw [if_pos hc]
   rw [e]; exact ⟨StW.nil h,StW.nil h⟩
  ·have e:=DI (d:=d) (s:=s) AB AB AB AB
   rw [e]
   have hn:=h.next
   have h1:=Ia (l:=d.list++[d.next]) (xs:=[]) h (by simp; omega) (UQ hs) AD AD
   have h2:DD (doD d ⟨1,d.next,Ai s.mem,[],[]⟩):=h.UO rfl AB (by show 0≤d.next∧d.next≤998; omega) (Lw (StoK.of hs q.sk))
   exact ⟨StW.UP h AB AB (Lw (StoK.of hs q.sk)) AD (Ia h2 (by simp; omega) (UQ hs) AD AD),h1⟩
 ·exact ⟨StW.nil h,StW.nil h⟩
theorem JI {d:Dsk}(h:DD d) (a:Int):StW d (Ag d a)∧StW d (((Ag d a).take (Ag d a).length).drop 1):=by
 rw [List.take_length]
 unfold Ag
 split
 ·rename_i hk0
  have hk:=C2 hk0
  have hdi:=h.di hk0
  unfold Ak
  split
  ·exact ⟨StW.nil h,StW.nil h⟩
  ·rename_i h1
   simp only [Bool.or_eq_true,not_or,Bool.not_eq_true,Bool.not_eq_false',decide_eq_true_eq] at h1
   obtain ⟨⟨h1,h3⟩,h4⟩:=h1
   have h0:=Bu (by simpa using h1)
   have hl:a.toNat+1< d.list.length:=by omega
   have ha:d.list.getD a.toNat 0∈d.list:=by rw [List.getD_eq_getElem?_getD,AU AB]; exact List.getElem_mem _
   have hb:d.list.getD (a.toNat+1) 0∈d.list:=by rw [List.getD_eq_getElem?_getD,AU hl]; exact List.getElem_mem _
   have na:=hdi.num _ ha
   have nb:=hdi.num _ hb
   have hn:=h.next
   generalize d.list.getD a.toNat 0=x at *
   generalize d.list.getD (a.toNat+1) 0=y at *
   have hp:PrtI (BB (Au d x) (Au d y)):=(h.part x).merge (h.part y)
   have hlen:(d.list.take a.toNat++[d.next]++d.list.drop (a.toNat+2)).length≤7:=by
    simp only [List.length_append,List.length_take,List.length_drop,List.length_cons,List.length_nil]; omega
   have hg:∀ z∈[(⟨3,x,⟨[],[]⟩,[],[]⟩:Stp),⟨3,y,⟨[],[]⟩,[],[]⟩],z.kind=3∧JR z∧z.part=⟨[],[]⟩:=fun z hz=>by
    simp only [List.mem_cons,List.not_mem_nil,or_false] at hz
    rcases hz with rfl | rfl
    ·exact ⟨rfl,IZ AD AD AD (by show -9000000≤x∧x≤9000000; omega),rfl⟩
    ·exact ⟨rfl,IZ AD AD AD (by show -9000000≤y∧y≤9000000; omega),rfl⟩
   have h2:DD (doD d ⟨1,d.next,BB (Au d x) (Au d y),[],[]⟩):=h.UO rfl AB (by show 0≤d.next∧d.next≤998; omega) hp
   exact ⟨StW.UP h AB AB hp AD (Ia h2 hlen h.g hg AD),Ia h hlen h.g hg AD⟩
 ·exact ⟨StW.nil h,StW.nil h⟩
theorem Tt {l:List Stp}{i:Nat}{d:Dsk}{q:Stp}{Y:Dsk}(h:(l.drop i).foldl doD d=Y) (hd:l.drop i=q::l.drop (i+1)):(l.drop (i+1)).foldl doD (doD d q)=Y:=by
 rw [hd] at h
 exact h
theorem Ol {l:List Stp}{i:Nat}{d:Dsk}{Y:Dsk}(h:(l.drop i).foldl doD d=Y) (hi:l.length≤i):d=Y:=by
 rw [Aa hi] at h
 exact h
theorem VN {d:Dsk}{st:List Stp}{c:Int}(hc:¬ c< 0):((st.take (if (st.length:Int)< c then (st.length:Int) else c).toNat).drop 0).foldl doD d=toD d st c:=by
 unfold toD
 rw [List.drop_zero]
 split
 ·rw [show ((st.length:Int)).toNat=st.length by omega,List.take_length,List.take_of_length_le AB]
 ·rfl
theorem JJ {l:List Stp}{i:Nat}{x d:Dsk}{st:List Stp}{c:Int}(h:(l.drop i).foldl doD x=toD d st c) (hi:l.length≤i) (hw:StW d st):DD x:=by
 rw [Ol h hi]
 exact hw.ok c.toNat
theorem SJ {d:Dsk}(x:Stp):(doD d x).files.length≤d.files.length+1:=by
 unfold doD
 split
 ·simp
 ·split
  ·simp
  ·split
   ·have:=Kx (d:=d) (n:=x.num); simp only; omega
   ·omega
theorem WC {st:List Stp}{c:Int}{k:Nat}{x:Stp}(h:((st.take (if (st.length:Int)< c then (st.length:Int) else c).toNat).drop 0)[k]? = some x):k< st.length:=by
 have:=(List.getElem?_eq_some_iff.1 h).1
 rw [List.length_drop,List.length_take] at this
 omega
theorem QU {d:Dsk}(h:DD d):d.files.length≤1000:=by have:=h.nf; omega
theorem QV {d:Dsk}(h:DD d):∀ f∈d.files,Cs f.part:=fun f hf=>(h.file f hf).sz
theorem QW {d:Dsk}(h:DD d):d.list.length≤1000:=by have:=h.nl; omega
theorem QX {d:Dsk}(h:DD d):d.names.length≤1000:=by have:=h.g.len; omega
theorem QY {d:Dsk}(h:DD d):∀ n∈d.names,n.length≤1000:=SI h.g
theorem SK {d:Dsk}{st:List Stp}{c:Int}(h:Ax d=false∨c< 0∨Ax (toD d st c)=false):(⟨[],[],[],0⟩:Dsk)=Aj d st c:=by
 unfold Aj
 rw [if_neg]
 ·rfl
 ·rintro ⟨h1,h2,h3⟩
  rcases h with h | h | h
  ·rw [h] at h1; cases h1
  ·omega
  ·rw [h] at h3; cases h3
theorem UR {d:Dsk}{st:List Stp}{c:Int}(h:Ax d=true) (h1:¬ c< 0) (h2:Ax (toD d st c)=true):Aj d st c=toD d st c:=by
 unfold Aj
 rw [if_pos ⟨h,by omega,h2⟩]
theorem Tu {l:List Stp}{i:Nat}{x d:Dsk}{st:List Stp}{c:Int}(h:(l.drop i).foldl doD x=toD d st c) (hi:l.length≤i) (h2:Ax x=false):(⟨[],[],[],0⟩:Dsk)=Aj d st c:=by
 rw [Ol h hi] at h2
 exact SK (.inr (.inr h2))
theorem Tv {l:List Stp}{i:Nat}{x d:Dsk}{st:List Stp}{c:Int}(h:(l.drop i).foldl doD x=toD d st c) (hi:l.length≤i) (h0:Ax d=true) (h1:¬ c< 0) (h2:Ax x=true):x=Aj d st c:=by
 rw [Ol h hi] at h2 ⊢
 exact (UR h0 h1 h2).symm
theorem VP {d:Dsk}{st:List Stp}(c:Int) (h:StW d st):DD (toD d st c):=h.ok c.toNat
theorem DD.tidy {d:Dsk}(h:DD d):DD (BJ d):=⟨h.g,h.nl,Nat.le_trans (List.length_filter_le _ _) h.nf,fun f hf=>h.file f (List.mem_filter.1 hf).1,h.next⟩
theorem Tw {d:Dsk}(h:Ax d=false):(⟨[],[],[],0⟩:Dsk)=CE d:=by unfold CE; rw [if_neg (by simp [h])]; rfl
theorem KE {d:Dsk}(h:Ax d=true):CE d=BJ d:=by unfold CE; rw [if_pos h]
theorem Cp {l:List Fil}{i:Nat}{k:List Fil}{q:Fil}(h:k++l.drop i=l) (hd:l.drop i=q::l.drop (i+1)):(k++[q])++l.drop (i+1)=l:=by
 rw [hd] at h
 simpa using h
theorem CF {α:Type}{l:List α}{i:Nat}{k:List α}(h:k++l.drop i=l) (hi:l.length≤i):k=l:=by
 rw [Aa hi] at h
 simpa using h
theorem VQ {a b:List Fil}{k:Nat}{x y:Fil}(h:a.drop k=b.drop k↔a=b) (ha:a.drop k=x::a.drop (k+1)) (hb:b.drop k=y::b.drop (k+1)) (h1:x.num=y.num) (h2:(x.part==y.part)=true):a.drop (k+1)=b.drop (k+1)↔a=b:=by
 have e:x=y:=by
  have:=eq_of_beq h2
  cases x; cases y
  simp_all
 rw [← h,ha,hb,e]
 simp
theorem SL {a b:List Fil}{k:Nat}{x y:Fil}(h:a.drop k=b.drop k↔a=b) (ha:a.drop k=x::a.drop (k+1)) (hb:b.drop k=y::b.drop (k+1)) (h1:x.num≠y.num∨(x.part==y.part)=false):a≠b:=fun e=>by
 have:=h.2 e
 rw [ha,hb,List.cons.injEq] at this
 rcases h1 with h1 | h1
 ·exact h1 (by rw [this.1])
 ·rw [this.1] at h1; simp at h1
theorem Nu {α:Type}{a b:List α}{k:Nat}(h:a.drop k=b.drop k↔a=b) (ha:a.length≤k) (hl:(a.length:Int)=b.length):a=b:=h.1 (by rw [Aa ha,Aa AB])
theorem Hm {a b:Dsk}(h:a.files≠b.files∨a.list≠b.list∨a.names≠b.names∨a.next≠b.next):false=(a==b):=(beq_eq_false_iff_ne.2 (fun e=>by subst e; simp at h)).symm
theorem VR {a b:Dsk}(h1:a.files=b.files) (h2:(a.list==b.list)=true) (h3:a.names=b.names) (h4:a.next=b.next):true=(a==b):=by
 symm
 rw [beq_iff_eq]
 have:=eq_of_beq h2
 cases a; cases b
 simp_all
theorem SN {α:Type}{a b:List α}(h:(a.length:Int)≠b.length):a≠b:=fun e=>h (by rw [e])
theorem VT {α:Type}[BEq α] [LawfulBEq α] {a b:α}(h:(a==b)=false):a≠b:=beq_eq_false_iff_ne.1 h
theorem US {d:Dsk}{a:Int}(h:Ax d=true) (h1:inR a 0 ((d.list.length:Int) - 2)=false∨Ee d=true):[]=Ag d a:=by
 rw [D8 h,H5]
 rcases h1 with h1 | h1
 ·exact .inl h1
 ·rcases Pb h1 with h1 | h1
  ·exact .inr (.inl AB)
  ·exact .inr (.inr AB)
theorem Lx {d:Dsk}{n:Int}(hn:n∈d.list):Au d n∈(Ao d).parts:=by
 show _∈d.list.map (Au d)
 exact List.mem_map.2 ⟨n,hn,rfl⟩
theorem SO {d:Dsk}{at_ a b:Int}{f g:Fil}(hd:DD d) (h:Ax d=true) (h1:inR at_ 0 ((d.list.length:Int) - 2)=true) (h2:Ee d=false) (ha:d.list[at_.toNat]? = some a) (hb:d.list[(at_+1).toNat]? = some b) (hf:d.files[(As d a).toNat]? = some f) (hg:d.files[(As d b).toNat]? = some g) :
 [⟨1,d.next,(Bx f.part g.part).1,[],[]⟩,⟨2,0,⟨[],[]⟩,(([]++(d.list.take at_.toNat).drop 0)++[d.next])++(d.list.take d.list.length).drop (at_+2).toNat,d.names⟩,⟨3,a,⟨[],[]⟩,[],[]⟩,⟨3,b,⟨[],[]⟩,[],[]⟩]=Ag d at_:=by
 have hx:=Pa h2
 have hk:=C2 h
 have:=hd.nf
 have hs:=hd.sd h
 have hso:=(Fj h).2.1
 have e:=Ku hs hso (Lx (AV ha)) (Lx (AV hb))
 rw [El hf,El hg] at e
 rw [e,D8 h,EI h1 AB AB ha hb hf hg]
end Go.Proofs.YtckdhcbbgmiccaaGreat
namespace Go.Proofs.YtckdhcbbgmiccaaGreat
def DZ (l:List Int):Nat→List Fil→Int
 | _,[]=>-1
 | i,f::fs=>if l.contains f.num then DZ l (i+1) fs else i
theorem VU {l:List Int}{s:List Fil}{k:Nat}{f:Fil}(h:DZ l k (s.drop k)=DZ l 0 s) (hd:s.drop k=f::s.drop (k+1)) (hc:(!(l.contains f.num))=false):DZ l (k+1) (s.drop (k+1))=DZ l 0 s:=by
 rw [← h,hd]
 show _=if l.contains f.num then DZ l (k+1) (s.drop (k+1)) else (k:Int)
 rw [if_pos (by simpa using hc)]
theorem SP {l:List Int}{s:List Fil}{k:Nat}{f:Fil}(h:DZ l k (s.drop k)=DZ l 0 s) (hd:s.drop k=f::s.drop (k+1)) (hc:(!(l.contains f.num))=true):(k:Int)=DZ l 0 s:=by
 rw [← h,hd]
 show _=if l.contains f.num then DZ l (k+1) (s.drop (k+1)) else (k:Int)
 rw [if_neg (by simpa using hc)]
theorem SQ {l:List Int}{s:List Fil}{k:Nat}(h:DZ l k (s.drop k)=DZ l 0 s) (hk:s.length≤k):(-1:Int)=DZ l 0 s:=by
 rw [Aa hk] at h
 exact h
theorem HA (l:List Int):∀ (s:List Fil) (i:Nat),(DZ l i s = -1∧s.filter (fun f=>l.contains f.num)=s)∨∃ k:Nat,DZ l i s=(i+k:Nat)∧k< s.length∧s.take k=(s.take (k+1)).filter (fun f=>l.contains f.num):=by
 intro s
 induction s with
 | nil=>intro i; exact .inl ⟨rfl,rfl⟩
 | cons f fs ih =>
   intro i
   unfold DZ
   by_cases hc:l.contains f.num=true
   ·rw [if_pos hc]
    rcases ih (i+1) with ⟨h1,h2⟩ | ⟨k,h1,h2,h3⟩
    ·left
     refine ⟨h1,?_⟩
     rw [List.filter_cons,if_pos hc,h2]
    ·right
     refine ⟨k+1,by rw [h1]; omega,by simp; omega,?_⟩
     rw [List.take_succ_cons,List.take_succ_cons,List.filter_cons,if_pos hc,← h3]
   ·rw [if_neg hc]
    right
    refine ⟨0,by simp,by simp,?_⟩
    simp only [List.take_zero,Nat.zero_add,List.take_succ_cons]
    rw [List.filter_cons,if_neg hc]
    rfl
theorem Pc {l:List Int}{s:List Fil}(h:¬ DZ l 0 s = -1):0≤DZ l 0 s:=by
 rcases HA l s 0 with ⟨h1,_⟩ | ⟨k,h1,_⟩
 ·exact absurd h1 h
 ·omega
theorem Pd (l:List Int) (s:List Fil):DZ l 0 s< s.length∨s.length=0∧DZ l 0 s = -1:=by
 rcases HA l s 0 with ⟨h1,_⟩ | ⟨k,h1,h2,_⟩
 ·by_cases e:s.length=0
  ·exact .inr ⟨e,h1⟩
  ·exact .inl AB
 ·exact .inl AB
theorem QZ {l:List Int}{s:List Fil}(h:¬ DZ l 0 s = -1):s.take (DZ l 0 s).toNat=(s.take (DZ l 0 s+1).toNat).filter (fun f=>l.contains f.num):=by
 rcases HA l s 0 with ⟨h1,_⟩ | ⟨k,h1,h2,h3⟩
 ·exact absurd h1 h
 ·rw [h1,show (((0+k:Nat):Int)).toNat=k by omega,show (((0+k:Nat):Int)+1).toNat=k+1 by omega]
  exact h3
theorem Tx {l:List Int}{s:List Fil}(h:DZ l 0 s = -1):s=s.filter (fun f=>l.contains f.num):=by
 rcases HA l s 0 with ⟨_,h1⟩ | ⟨k,h1,h2,h3⟩
 ·exact h1.symm
 ·omega
theorem Ja {α:Type}{a b:List α}{j:Nat}{x:α}(h:a.drop j=b.drop j) (hx:a[j]? = some x):b[j]? = some x:=by
 have h1:(a.drop j)[0]? = (b.drop j)[0]? := by rw [h]
 rw [List.getElem?_drop,List.getElem?_drop,Nat.add_zero] at h1
 rw [← h1]; exact hx
theorem Ly {α:Type}{b:List α}{j:Int}{x:α}(hj:0≤j) (hx:b[j.toNat]? = some x):b.take (j+1).toNat=b.take j.toNat++[x]:=by
 rw [show (j+1).toNat=j.toNat+1 by omega,List.take_add_one,hx]
 rfl
theorem SR {l:List Int}{xs xs0:List Fil}{i j:Int}{v:Fil}(h:xs.take i.toNat=(xs0.take j.toNat).filter (fun f=>l.contains f.num)) (h2:xs.drop j.toNat=xs0.drop j.toNat) (hv:xs[j.toNat]? = some v) (hi:0≤i) (hij:i< j) (hl:j< xs.length) (hc:(!(l.contains v.num))=false):(xs.set i.toNat v).take (i+1).toNat=(xs0.take (j+1).toNat).filter (fun f=>l.contains f.num):=by
 have h0:=Ja h2 hv
 rw [Ly AB h0,List.filter_append,← h,List.filter_cons,if_pos (by simpa using hc),show (i+1).toNat=i.toNat+1 by omega,List.take_add_one,List.take_set_of_le (Nat.le_refl _),List.getElem?_set_self AB]
 rfl
theorem SS {l:List Int}{xs xs0:List Fil}{i j:Int}{v:Fil}(h:xs.take i.toNat=(xs0.take j.toNat).filter (fun f=>l.contains f.num)) (h2:xs.drop j.toNat=xs0.drop j.toNat) (hv:xs[j.toNat]? = some v) (hj:0≤j) (hc:(!(l.contains v.num))=true):xs.take i.toNat=(xs0.take (j+1).toNat).filter (fun f=>l.contains f.num):=by
 have h0:=Ja h2 hv
 rw [Ly hj h0,List.filter_append,← h,List.filter_cons,if_neg (by simpa using hc)]
 simp
theorem Qa {xs xs0:List Fil}{i j:Int}{v:Fil}(h2:xs.drop j.toNat=xs0.drop j.toNat) (hi:0≤i) (hij:i< j) (_hj:0≤j):(xs.set i.toNat v).drop (j+1).toNat=xs0.drop (j+1).toNat:=by
 rw [List.drop_set_of_lt AB,show (j+1).toNat=j.toNat+1 by omega,← List.drop_drop,← List.drop_drop,h2]
theorem SU {xs xs0:List Fil}{j:Int}(h2:xs.drop j.toNat=xs0.drop j.toNat) (hj:0≤j):xs.drop (j+1).toNat=xs0.drop (j+1).toNat:=by
 rw [show (j+1).toNat=j.toNat+1 by omega,← List.drop_drop,← List.drop_drop,h2]
theorem Ty {l:List Int}{xs xs0:List Fil}{i j:Int}(h:xs.take i.toNat=(xs0.take j.toNat).filter (fun f=>l.contains f.num)) (h2:xs.drop j.toNat=xs0.drop j.toNat) (hj:(xs.length:Int)≤j) (hij:0≤j):xs.take i.toNat=xs0.filter (fun f=>l.contains f.num):=by
 rw [h]
 congr 1
 have h3:xs0.drop j.toNat=[]:=by rw [← h2]; exact List.drop_of_length_le AB
 rw [List.drop_eq_nil_iff] at h3
 exact List.take_of_length_le h3
end Go.Proofs.YtckdhcbbgmiccaaGreat
namespace Go.Proofs.YtckdhcbbgmiccaaGreat
set_option maxRecDepth 100000
set_option maxHeartbeats 4000000
variable {w:World} {F:Nat→Prop}
theorem JK {r n c i:Nat}{xs:List Fil}{a b:Int}(ho:Own w r 110 F n c xs) (ha:a=(i:Int)) (hb:b=(i:Int)+1) (hi:i< n) (hn:n≤1000000):Calls Tryz.prog 118 [.slice (some ⟨r,0,none⟩) n c,.int .i64 a,.int .i64 b].toArray w (Al fun rv w'=>(rv=.slice (some ⟨r,0,none⟩) (n - 1) c∧Own w' r 110 F (n - 1) c (xs.take i++xs.drop (i+1)))∧Chg (one r) w w'):=by
 subst ha hb
 refine goT func118 ?_
 have hle:=ho.le
 obtain ⟨cs,hB,hl⟩:=ho.U7
 have hz:Rep.sz Fil=3:=rfl
 rw [hz] at hl
 refine .s<|.g<|.r 1<|.d<|.s<|.g<|.r 5<|RG.V3 (t:=33) (k:=.i64) (k2:=.i64) (k3:=.i64) (a:=some ⟨r,0,none⟩) (len:=n) (cap:=c) (i1:=(i:Int)) (i2:=(i:Int)+1) (i3:=(n:Int)) (sz:=3) i (i+1) n AA AA rfl AB rfl AB AB hle fun v_=>.d<|.s<|.s<|.g<|.r 2<|.eq (i:Int) ((i:Int)+1) (fun h=>absurd (show False by omega) id) fun _=>.d<|.cf<|.sk<|.s<|.g<|.r 3<|.d<|.s<|.gd (one r) 7 fun w1 hx1=>?_
 refine .r [0,1]<|GA.HG (i:=2) (t:=33) (r:=r) (o:=0) (len:=n) (cap:=c) (lo:=none) (hi:=some (vI (i:Int))) (sz:=3) 0 i AA AA AA (.inl ⟨rfl,rfl⟩) (.inr ⟨_,_,rfl,rfl⟩) AB AB AB<|.r [3,4]<|GA.V4 (i:=5) (t:=33) (r:=r) (len:=n) (cap:=c) (lo:=some (vI ((i:Int)+1))) (hi:=none) (sz:=3) (i+1) n AA AA AA (.inr ⟨_,_,rfl,by omega⟩) (.inl ⟨rfl,rfl⟩) AB AB fun a2 c2 h2=>?_
 refine .go 6<|GE.append (T:=33) (ty:=33) (args:=[.slice (some ⟨r,0,none⟩) i c,.slice a2 (n - (i+1)) c2]) AA fun w2 hx2=>?_
 have hx12:Ext w w2:=hx1.trans hx2
 have m1:(i+1) * 3+(n - (i+1)) * 3=n * 3:=by omega
 have hB2:=hB.ext hx12
 obtain ⟨w3,hr,hB3,hx3⟩:=Nc (P:=Tryz.prog) (T:=33) (ty:=33) (t:=110) (sz:=3) (i:=i) (c:=c) (m:=n - (i+1)) (c':=c2) (a2:=a2) (vs:=(cs.drop ((i+1) * 3)).take ((n - (i+1)) * 3)) AA hB2
  (fun hp=>⟨_,h2 hp,fun k u hu=>by
   rw [add_lit]
   unfold Box at hB2
   simp only [World.cell?,hB2]
   rw [List.getElem?_take] at hu
   split at hu
   ·rw [List.getElem?_drop] at hu
    simpa using hu
   ·cases hu⟩) (by rw [List.length_take,List.length_drop]; omega) AB (by rw [List.length_take,List.length_drop]; omega) (fun v hv=>ho.We (i:=i+1) hB v AB hv)
 refine ⟨_,w3,hr,hx3,.d fun w4 hx4=>.r 1<|.d<|.s<|.g<|.r 4<|?_⟩
 have hB4:=hB3.ext hx4
 have hlen:i+(n - (i+1))=n - 1:=by omega
 rw [hlen]
 refine RG.HG (t:=33) (r:=r) (o:=0) (len:=n - 1) (cap:=c) (lo:=some (vI ((n - 1:Nat):Int))) (hi:=some (vI (n:Int))) (sz:=3) (n - 1) n AA AA (.inr ⟨_,_,rfl,rfl⟩) (.inr ⟨_,_,rfl,rfl⟩) AB AB AB ?_
 have h1:n - (n - 1)=1:=by omega
 rw [h1]
 have hl4:(Az cs (i * 3) ((cs.drop ((i+1) * 3)).take ((n - (i+1)) * 3))).length=c * 3:=by rw [D1 (by rw [List.length_take,List.length_drop]; omega)]; exact hl
 obtain ⟨vs,w5,hr5,hv5,hB5,hx5⟩:=Nd (P:=Tryz.prog) (T:=33) (ty:=0) (t:=110) (sz:=3) (o:=0+(n - 1) * 3) (c:=c - (n - 1)) AA hB4 AB
 rw [Nat.zero_add] at hB5
 have hd:=Lr (sz:=3) hl hi hle rfl hv5
 have hx:Chg (one r) w w5:=(((hx12.chg (S:=one r)).trans hx3).trans hx4.chg).trans hx5
 refine RG.clear (ats:=[33]) (ty:=0) (args:=[.slice (some ⟨r,0+(n - 1) * 3,none⟩) 1 (c - (n - 1))]) AA hr5<|.d<|.s<|.g<|.r 2<|.d<|.rt func118 results118 (.slice (some ⟨r,0,none⟩) (n - 1) c) ⟨⟨rfl,Own.R1 ho hx hB hB5 (by rw [hz]; exact hd.1) hi (by rw [hz]; exact hd.2)⟩,hx⟩
end Go.Proofs.YtckdhcbbgmiccaaGreat
