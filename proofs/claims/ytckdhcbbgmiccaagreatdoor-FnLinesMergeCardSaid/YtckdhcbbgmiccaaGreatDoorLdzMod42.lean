/- Blocks and parts merged, as the program does it: plain laws. -/
import Derived.Test.YtckdhcbbgmiccaaGreatDoorLdzMod30
import Derived.Test.YtckdhcbbgmiccaaGreatDoorLdzMod23
open Go.Proofs.Tryz
set_option linter.unusedVariables false
set_option linter.unusedSimpArgs false
namespace Go.Proofs.YtckdhcbbgmiccaaGreatDoor
theorem Kz {b:List Row}(h:Bn b=true):Blk b:=by
 unfold Bn at h
 simp only [AW] at h
 exact h.1
def CR (a b:List Row):List Row × Bool:=if Bn a=true∧Bn b=true∧¬ ((Bl a b).length:Int) > 24 then (Bl a b,true) else ([],false)
theorem Li {a b:List Row}(h:Bn a=false∨Bn b=false):CR a b=([],false):=by
 unfold CR
 rw [if_neg]
 rintro ⟨h1,h2,_⟩
 rcases h with h | h
 ·rw [h] at h1; cases h1
 ·rw [h] at h2; cases h2
theorem R3 {a b out:List Row}(e:out=Bl a b) (_ha:Bn a=true) (_hb:Bn b=true) (h:(out.length:Int) > 24):[]=(CR a b).1∧false=(CR a b).2:=by
 subst e
 unfold CR
 rw [if_neg (fun q=>q.2.2 h)]
 exact ⟨rfl,rfl⟩
theorem R4 {a b out:List Row}(e:out=Bl a b) (ha:Bn a=true) (hb:Bn b=true) (h:¬ (out.length:Int) > 24):out=(CR a b).1∧true=(CR a b).2:=by
 subst e
 unfold CR
 rw [if_pos ⟨ha,hb,h⟩]
 exact ⟨rfl,rfl⟩
theorem Us {a b:List Row}(h:(CR a b).2=true):(CR a b).1=Bl a b:=by
 unfold CR at h ⊢
 split at h
 ·rename_i h1; rw [if_pos h1]
 ·cases h
def okM (a b:Prt) (n:Nat):Bool:=(List.range n).all (fun i=>(CR (BN a ((i:Int)+1)) (BN b ((i:Int)+1))).2)
theorem Ut (a b:Prt) (n:Nat):okM a b (n+1)=(okM a b n&&(CR (BN a ((n:Int)+1)) (BN b ((n:Int)+1))).2):=by simp [okM,List.range_succ]
def CN (a b:Prt):Prt × Bool:=if Ay a=true∧Ay b=true∧okM a b 6=true then (BJ a b,true) else (⟨[],[]⟩,false)
theorem Lj {a b:Prt}(h:Ay a=false∨Ay b=false):CN a b=(⟨[],[]⟩,false):=by
 unfold CN
 rw [if_neg]
 rintro ⟨h1,h2,_⟩
 rcases h with h | h
 ·rw [h] at h1; cases h1
 ·rw [h] at h2; cases h2
theorem R5 {a b:Prt}{k:Nat}(h1:1≤k) (h2:k≤6) (h:(CR (BN a (k:Int)) (BN b (k:Int))).2=false):CN a b=(⟨[],[]⟩,false):=by
 unfold CN
 rw [if_neg]
 rintro ⟨_,_,h3⟩
 unfold okM at h3
 rw [List.all_eq_true] at h3
 have:=h3 (k - 1) (by simp; omega)
 rw [show ((k - 1:Nat):Int)+1=(k:Int) by omega,h] at this
 cases this
theorem Pq {a b:Prt}{k:Nat}(h:okM a b (k - 1)=true) (h1:1≤k) (h2:(CR (BN a (k:Int)) (BN b (k:Int))).2=true):okM a b (k+1 - 1)=true:=by
 rw [show k+1 - 1=(k - 1)+1 by omega,Ut,h,show ((k - 1:Nat):Int)+1=(k:Int) by omega,h2]
 rfl
theorem R6 {a b:Prt}(ha:Ay a=true) (hb:Ay b=true){k:Nat}(hk:1≤k) (h:(CR (BN a (k:Int)) (BN b (k:Int))).2=true):Bc a b (k+1 - 1)=Bc a b (k - 1)++[(CR (BN a (k:Int)) (BN b (k:Int))).1]:=by
 have ea:BN a (k:Int)=partOf a (k:Int):=by unfold BN; rw [if_pos ha]
 have eb:BN b (k:Int)=partOf b (k:Int):=by unfold BN; rw [if_pos hb]
 rw [show k+1 - 1=(k - 1)+1 by omega,JA,show ((k - 1:Nat):Int)+1=(k:Int) by omega,Us h,ea,eb]
section
variable {a b:Prt} {k:Nat}
theorem W0 {o:List Int}(ha:Ay a=true) (hb:Ay b=true) (hk:1≤k) (h:(CR (BN a (k:Int)) (BN b (k:Int))).2=true) (e:o=(BQ 0 (Bc a b (k - 1))).1) (hl:((CR (BN a (k:Int)) (BN b (k:Int))).1.length:Int) > 0):o++[(k:Int)]=(BQ 0 (Bc a b (k+1 - 1))).1:=by
 rw [R6 ha hb hk h,Dg,if_pos AB,e,EG,show ((0:Nat):Int)+((k - 1:Nat):Int)+1=(k:Int) by omega]
theorem W1 {o:List Int}(ha:Ay a=true) (hb:Ay b=true) (hk:1≤k) (h:(CR (BN a (k:Int)) (BN b (k:Int))).2=true) (e:o=(BQ 0 (Bc a b (k - 1))).1) (hl:¬ ((CR (BN a (k:Int)) (BN b (k:Int))).1.length:Int) > 0):o=(BQ 0 (Bc a b (k+1 - 1))).1:=by
 rw [R6 ha hb hk h,Dg,if_neg AB,e]
theorem W2 {o:List (List Row)}(ha:Ay a=true) (hb:Ay b=true) (hk:1≤k) (h:(CR (BN a (k:Int)) (BN b (k:Int))).2=true) (e:o=(BQ 0 (Bc a b (k - 1))).2) (hl:((CR (BN a (k:Int)) (BN b (k:Int))).1.length:Int) > 0):o++[(CR (BN a (k:Int)) (BN b (k:Int))).1]=(BQ 0 (Bc a b (k+1 - 1))).2:=by
 rw [R6 ha hb hk h,Dg,if_pos AB,e]
theorem W3 {o:List (List Row)}(ha:Ay a=true) (hb:Ay b=true) (hk:1≤k) (h:(CR (BN a (k:Int)) (BN b (k:Int))).2=true) (e:o=(BQ 0 (Bc a b (k - 1))).2) (hl:¬ ((CR (BN a (k:Int)) (BN b (k:Int))).1.length:Int) > 0):o=(BQ 0 (Bc a b (k+1 - 1))).2:=by
 rw [R6 ha hb hk h,Dg,if_neg AB,e]
theorem R7 {x:List Int}{y:List (List Row)}(hk:k=7) (ha:Ay a=true) (hb:Ay b=true) (e1:x=(BQ 0 (Bc a b (k - 1))).1) (e2:y=(BQ 0 (Bc a b (k - 1))).2) (h:okM a b (k - 1)=true):(⟨x,y⟩:Prt)=(CN a b).1∧true=(CN a b).2:=by
 subst hk e1 e2
 unfold CN
 rw [if_pos ⟨ha,hb,h⟩]
 exact ⟨rfl,rfl⟩
end
theorem Nq {p:Prt}(h:C9 p) (id:Int):(BN p id).length≤1000:=by
 unfold BN
 split
 ·exact Db h id
 ·simp
def BT (s:Sto) (at_:Int):Sto × Bool:=if Ab s then BL (Ai s) at_ else (⟨⟨[],[]⟩,[],[]⟩,false)
theorem KZ {s:Sto}{i:Int}(h:Ab s=false):BT s i=(⟨⟨[],[]⟩,[],[]⟩,false):=by unfold BT; rw [if_neg (by simp [h])]
theorem G3 {s:Sto}{i:Int}(h:Ab s=true):BT s i=BL (Ai s) i:=by unfold BT; rw [if_pos h]
end Go.Proofs.YtckdhcbbgmiccaaGreatDoor
namespace Go.Proofs.YtckdhcbbgmiccaaGreatDoor
set_option maxRecDepth 100000
set_option maxHeartbeats 4000000
variable {w:World} {F:Nat→Prop} {a1 a2 a3 a4:Option Addr} {n1 c1 n2 c2 n3 c3 n4 c4:Nat}
theorem JZ (a:List Row) (b:List Row) (h1:RepS w F a1 n1 c1 a) (h2:RepS w F a2 n2 c2 b) (p0:a.length≤1000) (p1:b.length≤1000):Calls Tryz.prog 180 [.slice a1 n1 c1,.slice a2 n2 c2].toArray w (Al fun rv w'=>(∃ v0,rv=.tuple #[v0,.bool ((CR a b).2)]∧VL (ge w.heap.size) w' ((CR a b).1:List Row) v0)∧Ext w w'):=by
 cases h1.len
 cases h2.len
 refine goT func180 ?_
 have Z:=((St.i0 F w).p h1).p h2
 refine .s<|.g<|.r 2<|.d<|.s<|.s<|.g<|.r 1<|RG.C0 (Dc a (Z.a 1)) Z fun w Z=>?_
 cases am:(Bn a)
 ·exact .r 6<|.d<|.ct<|.s<|.g<|RG.N0 Row 0 Z fun az w Z=>.r 2<|.d<|T.r2 func180 results180 (.T _) (.t (.bool false)) ⟨⟨_,(Bk rfl (AG (by exact (congrArg Prod.snd (Li (.inl ‹_›))).symm))),Z.rM 0 ([]:List Row) (by exact (congrArg Prod.fst (Li (.inl ‹_›))).symm)⟩,Z.xt⟩
 refine .r 3<|RG.C0 (Dc b (Z.a 0)) Z fun w Z=>?_
 cases ao:(Bn b)
 ·exact .r 2<|.d<|.ct<|.s<|.g<|RG.N0 Row 0 Z fun aA w Z=>.r 2<|.d<|T.r2 func180 results180 (.T _) (.t (.bool false)) ⟨⟨_,(Bk rfl (AG (by exact (congrArg Prod.snd (Li (.inr ‹_›))).symm))),Z.rM 0 ([]:List Row) (by exact (congrArg Prod.fst (Li (.inr ‹_›))).symm)⟩,Z.xt⟩
 refine .r 2<|.d<|.cf<|.sk<|.s<|.g<|RG.N0 Row 0 Z fun aB w Z=>.r 1<|RG.An (hf:=.inr By) 0 1 ([]:List Row) a Z fun ag ah w Z=>.r 1<|.d<|.s<|.s<|.g<|.r 3<|.d<|.b 0 ?_
 have Z:=Z.sl 0
 refine T.Lp ((([]++a):List Row),sA ag,ah,(0:Nat)) (fun (out,a_out,c_out,k)=>([(6,.slice a_out out.length c_out),(21,.slice a2 b.length c2),(22,vI (b.length:Int)),(23,vI (k:Int))],[],[⟨0,none,.rep a_out c_out out⟩],b.length - k,(k≤b.length)∧(Blk out)∧((b.drop k).foldl Eg out=Bl a b))) [0] Z ⟨AB,(by exact Kz ‹_›),AF⟩ ?_
 rintro ⟨out,a_out,c_out,k⟩ aC w Z ⟨aq,ar,ax⟩ aa
 refine .s<|.g<|.bp ((k:Int)< (b.length:Int)) (fun ab=>?_) (fun ab=>.d<|.s<|.cf<|.x 0 rfl<|.s<|.s<|.g<|.r 2<|.bp ((out.length:Int) > 24) (fun ac=>.d<|.ct<|.s<|.g<|RG.N0 Row 0 Z fun aD w Z=>.r 2<|.d<|T.r2 func180 results180 (.T _) (.t (.bool false)) ⟨⟨_,(Bk rfl (AG (by exact (R3 (out:=out) (F6 ‹_› AB) ‹_› ‹_› AB).2))),Z.rM 0 ([]:List Row) (by exact (R3 (out:=out) (F6 ‹_› AB) ‹_› ‹_› AB).1)⟩,Z.xt⟩) fun ac=>.d<|.cf<|.sk<|.s<|.g<|.r 3<|.d<|T.r2 func180 results180 (.T _) (.t (.bool true)) ⟨⟨_,(Bk rfl (AG (by exact (R4 (out:=out) (F6 ‹_› AB) ‹_› ‹_› AB).2))),Z.rL 0 out (by exact (R4 (out:=out) (F6 ‹_› AB) ‹_› ‹_› AB).1)⟩,Z.xt⟩)
 exact .d<|.s<|.ct<|.sk<|.s<|.b 1<|.s<|.g<|gxb b k fun ae E ay af=>RG.Ix 2 E Z<|Z.el 2 E fun Z=>RG.Lg 0 0 Z<|RG.Np Z fun aE w Z=>RG.Ss 0 Z fun w Z=>.d<|.g<|.r 1<|RG.Ln 0 Z<|RG.CL (Ik out ae (Z.a 1) (by have:=Blk.len (by assumption:Blk out); omega)) Z fun ai aj w Z=>.r 1<|.d<|.ib 1<|.g<|.it ((k:Int)+1)<|.r 1<|.d<|aa (De ae out,ai,aj,k+1) _ _ AA (Z.to 1 [0] 3) ⟨AB,(by exact Blk.ins ‹_› ((Kz (by assumption:Bn b=true)).rows _ ‹_›)),(by rw [← Ge ‹_›]; exact Ff ‹_› ‹_›)⟩ (by (simp only []; omega))
theorem Ep (a:Prt) (b:Prt) (h1:RepS w F a1 n1 c1 a.ids) (h2:RepS w F a2 n2 c2 a.blocks) (h3:RepS w F a3 n3 c3 b.ids) (h4:RepS w F a4 n4 c4 b.blocks) (p0:C9 a) (p1:C9 b):Calls Tryz.prog 124 [.agg #[.slice a1 n1 c1,.slice a2 n2 c2],.agg #[.slice a3 n3 c3,.slice a4 n4 c4]].toArray w (Al fun rv w'=>(∃ v0,rv=.tuple #[v0,.bool ((CN a b).2)]∧VS (ge w.heap.size) w' ((CN a b).1:Prt) v0)∧Ext w w'):=by
 refine goT func124 ?_
 obtain ⟨rfl,eC,h1⟩:=h1.tp
 obtain ⟨rfl,eD,h2⟩:=h2.tp
 obtain ⟨rfl,eE,h3⟩:=h3.tp
 obtain ⟨rfl,eF,h4⟩:=h4.tp
 refine .s<|.g<|.np 124 [.slice a1 a.ids.length c1,.slice a2 a.blocks.length c2] fun ai fg bL bg aa cW=>?_
 replace ⟨h1,h2,h3,h4⟩:=(sn [] bg bL).g4 h1 h2 h3 h4
 have E:=bg
 refine .np 124 [.slice a3 b.ids.length c3,.slice a4 b.blocks.length c4] fun aj fi bM bN ab cX=>?_
 replace ⟨h1,h2,h3,h4,aa,E⟩:=(sn [ai] bN bM).g6 h1 h2 h3 h4 aa E
 refine .np 124 [AH,AH] fun ak dD aU bO ac cY=>?_
 have eG:=Ad aU aa.lt
 have eH:=Ad aU ab.lt
 have eI:=E.cn aU
 replace ⟨h1,h2,h3,h4,aa,ab,E⟩:=(sn [aj,ai] bO aU).g7 h1 h2 h3 h4 aa ab E
 refine .r 1<|.d<|.s<|.s<|.g<|.ln aa<|.cl (DM a h1.ta h2.ta (w:=dD) (F:=all)) ?_
 rintro fj dE ⟨rfl,bP⟩
 replace ⟨h1,h2,h3,h4,aa,ab,ac,E⟩:=(se [ak,aj,ai] bP).g8 h1 h2 h3 h4 aa ab ac E
 cases eJ:(Ay a)
 ·refine .r 6<|.d<|.ct<|.s<|.g<|.r 1<|.sc [AH,AH] ac fun fm bQ cZ c7=>?_
  replace ⟨h1,h2,h3,h4,aa,ab,E⟩:=(so [ak,aj,ai] bQ).g7 h1 h2 h3 h4 aa ab E
  exact .r 1<|.d<|.r2 func124 results124 (.bx cZ) (.t (.bool false)) ⟨⟨_,(Bk rfl (AG (by exact (congrArg Prod.snd (Lj (.inl ‹_›))).symm))),(VS.of (y:=(⟨([]:List Int),([]:List (List Row))⟩:Prt)) ⟨_,rfl,⟨_,_,_,_,_,_,rfl,(RepS.BX _ _ none 0 AE),(RepS.BX _ _ none 0 AE)⟩⟩ (by exact (congrArg Prod.fst (Lj (.inl ‹_›))).symm))⟩,E⟩
 refine .r 2<|.ln ab<|.cl (DM b h3.ta h4.ta (w:=dE) (F:=all)) ?_
 rintro fp fq ⟨rfl,bR⟩
 replace ⟨h1,h2,h3,h4,aa,ab,ac,E⟩:=(se [ak,aj,ai] bR).g8 h1 h2 h3 h4 aa ab ac E
 cases eK:(Ay b)
 ·refine .r 2<|.d<|.ct<|.s<|.g<|.r 1<|.sc [AH,AH] ac fun fu bS c8 da=>?_
  replace ⟨h1,h2,h3,h4,aa,ab,E⟩:=(so [ak,aj,ai] bS).g7 h1 h2 h3 h4 aa ab E
  exact .r 1<|.d<|.r2 func124 results124 (.bx c8) (.t (.bool false)) ⟨⟨_,(Bk rfl (AG (by exact (congrArg Prod.snd (Lj (.inr ‹_›))).symm))),(VS.of (y:=(⟨([]:List Int),([]:List (List Row))⟩:Prt)) ⟨_,rfl,⟨_,_,_,_,_,_,rfl,(RepS.BX _ _ none 0 AE),(RepS.BX _ _ none 0 AE)⟩⟩ (by exact (congrArg Prod.fst (Lj (.inr ‹_›))).symm))⟩,E⟩
 refine .r 2<|.d<|.cf<|.sk<|.s<|.g<|.ns 0 3 [] fun aC dF aL bT db de=>?_
 have df:=Ad aL aa.lt
 have dh:=Ad aL ab.lt
 have dj:=Ad aL ac.lt
 have dm:=Bq aL E.size
 have dp:=E.cn aL
 replace ⟨h1,h2,h3,h4,aa,ab,ac,E⟩:=(sn [ak,aj,ai] bT aL).g8 h1 h2 h3 h4 aa ab ac E
 have aE:Own (α:=Int) dF aC 3 (nin (ge w.heap.size) [aC,ak,aj,ai]) 0 0 []:=Own.BX db
 refine .ns 0 76 [] fun aH dG aI bU dq dt=>?_
 have du:=Ad aI aa.lt
 have dv:=Ad aI ab.lt
 have dw:=Ad aI ac.lt
 have dx:=Ad aI aE.lt
 have dy:=Bq aI E.size
 have dz:=E.cn aI
 replace ⟨h1,h2,h3,h4,aa,ab,ac,aE,E⟩:=(sn [aC,ak,aj,ai] bU aI).g9 h1 h2 h3 h4 aa ab ac aE E
 have aO:Own (α:=List Row) dG aH 76 (nin (ge w.heap.size) [aH,aC,ak,aj,ai]) 0 0 []:=Own.BX dq
 refine .r 1<|.np 124 [AH,AH] fun al fv aJ bh b0 b6=>?_
 have dH:=Ad aJ aa.lt
 have dI:=Ad aJ ab.lt
 have dJ:=Ad aJ ac.lt
 have b7:=Ad aJ aE.lt
 have b8:=Ad aJ aO.lt
 have dK:=E.cn aJ
 replace ⟨h1,h2,h3,h4,aa,ab,ac,aE,aO,E⟩:=(sn [aH,aC,ak,aj,ai] bh aJ).g10 h1 h2 h3 h4 aa ab ac aE aO E
 refine .sc [vS aC 0 0,vS aH 0 0] b0 fun aM bi aV b9=>?_
 replace ⟨h1,h2,h3,h4,aa,ab,ac,aE,aO,E⟩:=(so [al,aH,aC,ak,aj,ai] bi).g10 h1 h2 h3 h4 aa ab ac aE aO E
 refine .d<|.s<|.s<|.g<|.r 1<|.d<|.b 0<|T.loop (X:=Nat × (List Int) × Nat × Nat × Nat × (List (List Row)) × Nat × Nat × Nat) (1,([]:List Int),aC,0,0,([]:List (List Row)),aH,0,0) (fun (j,ax,r_out_0,n_out_0,c_out_0,ay,r_out_1,n_out_1,c_out_1)=>[(2,.pointer (some ⟨ai,0,none⟩)),(3,.pointer (some ⟨aj,0,none⟩)),(4,.pointer (some ⟨ak,0,none⟩)),(6,.pointer (some ⟨al,0,none⟩)),(7,vI (j:Int))]) (fun (j,ax,r_out_0,n_out_0,c_out_0,ay,r_out_1,n_out_1,c_out_1) aP=>Chg (ins [aC,aH,al]) aM aP∧Own aP r_out_0 3 (nin (ge w.heap.size) [al,r_out_1,r_out_0,ak,aj,ai]) n_out_0 c_out_0 ax∧OrB r_out_0 aC aM.heap.size∧Own aP r_out_1 76 (nin (ge w.heap.size) [al,r_out_1,r_out_0,ak,aj,ai]) n_out_1 c_out_1 ay∧OrB r_out_1 aH aM.heap.size∧Nb r_out_1 r_out_0∧Box aP al 124 [vS r_out_0 n_out_0 c_out_0,vS r_out_1 n_out_1 c_out_1]∧(1≤j)∧(j≤7)∧(ax.length≤j)∧(ay.length≤j)∧(ax=(BQ 0 (Bc a b (j - 1))).1)∧(ay=(BQ 0 (Bc a b (j - 1))).2)∧(okM a b (j - 1)=true)) (fun (j,ax,r_out_0,n_out_0,c_out_0,ay,r_out_1,n_out_1,c_out_1)=>7 - j) AA ⟨AA,AA,AA,AA,AA,trivial⟩ ⟨Chg.refl _ _,aE,FX,aO,FX,dx,aV,AB,AB,(by (simp; done)),(by (simp; done)),AF,AF,AF⟩ ?_
 rintro ⟨j,ax,r_out_0,n_out_0,c_out_0,ay,r_out_1,n_out_1,c_out_1⟩ eL aP ⟨af,ag,aq,ae,ar,bj,ah,dL,dM,dN,dO,dP,dQ,dR⟩ aQ
 have dS:=D9 aq df aa.lt
 have dT:=D9 aq dh ab.lt
 have dU:=D9 aq dj ac.lt
 have cd:=D9 aq (Nb.symm b7) aV.lt
 have ce:=QY aq dm E.size
 have dV:=D2 aq dp E.size
 have dW:=D9 ar du aa.lt
 have dX:=D9 ar dv ab.lt
 have dY:=D9 ar dw ac.lt
 have cg:=D9 ar (Nb.symm b8) aV.lt
 have ci:=QY ar dy E.size
 have dZ:=D2 ar dz E.size
 have cj:Cov (ins [aC,aH,al]) aM aC:=⟨.inl AI⟩
 have ck:Cov (ins [aC,aH,al]) aM aH:=⟨.inl AJ⟩
 have d0:Cov (ins [aC,aH,al]) aM al:=⟨.inl AK⟩
 have d3:=D2 aq cj (Nat.le_refl _)
 have d4:=D2 ar ck (Nat.le_refl _)
 have bk:Mv [al,aH,aC,ak,aj,ai] [al,r_out_1,r_out_0,ak,aj,ai] aM aP:=Mv.inl af (all_cons AK (all_cons AJ (all_cons AI all_nil))) (all_cons (.inl AI) (all_cons (Gs ar AJ) (all_cons (Gs aq AK) (all_cons (.inl AL) (all_cons (.inl AM) (all_cons (.inl AN) all_nil))))))
 replace ⟨h1,h2,h3,h4,aa,ab,ac,E⟩:=(sp bk af).g8 h1 h2 h3 h4 aa ab ac E
 have d5:=ag.len; have d6:=ag.max
 have d7:=ae.len; have d8:=ae.max
 refine .s<|.s<|.g<|.r 1<|.bp ((j:Int)≤6) (fun cm=>?_) (fun cm=>?_)
 ·refine .d<|.ct<|.sk<|.s<|.b 1<|.s<|.gd nil 11 fun eM bm=>?_
  replace ⟨h1,h2,h3,h4,aa,ab,ac,ag,ae,ah,E,af⟩:=(se [al,r_out_1,r_out_0,ak,aj,ai] bm).g12 h1 h2 h3 h4 aa ab ac ag ae ah E af
  refine .ln 0 aa id<|.r [1]<|.ln 3 ab id<|.r [4]<|.go 2<|.cl (fun bn aR=>GM a (j:Int) (h1.ta.ext aR) (h2.ta.ext aR) (by exact p0) (w:=bn) (F:=all)) ?_
  intro bn aR
  replace ⟨h3,h4,aa,ab,ac,ag,ae,ah,E,af⟩:=(se [al,r_out_1,r_out_0,ak,aj,ai] aR).g10 h3 h4 aa ab ac ag ae ah E af
  rintro eN eO ⟨⟨eP,eQ,rfl,aK⟩,aW⟩
  have bo:=al6 ah.lt ae.lt ag.lt ac.lt ab.lt aa.lt
  have co:Gb w.heap.size bn.heap.size:=E.size
  have hkeep_:=aW
  replace ⟨h3,h4,aa,ab,ac,ag,ae,ah,E,af⟩:=(se [al,r_out_1,r_out_0,ak,aj,ai] aW).g10 h3 h4 aa ab ac ag ae ah E af
  refine ⟨Ext.chg hkeep_,?_⟩
  have aK:=aK.fr bo co
  refine .go 5<|.cl (fun bq aS=>GM b (j:Int) (h3.ta.ext aS) (h4.ta.ext aS) (by exact p1) (w:=bq) (F:=all)) ?_
  intro bq aS
  replace ⟨aa,ab,ac,ag,ae,ah,aK,E,af⟩:=(se [al,r_out_1,r_out_0,ak,aj,ai] aS).g9 aa ab ac ag ae ah aK E af
  rintro eR eS ⟨⟨eT,eU,rfl,aZ⟩,aX⟩
  have br:=al6 ah.lt ae.lt ag.lt ac.lt ab.lt aa.lt
  have cp:Gb w.heap.size bq.heap.size:=E.size
  have hkeep_:=aX
  replace ⟨aa,ab,ac,ag,ae,ah,aK,E,af⟩:=(se [al,r_out_1,r_out_0,ak,aj,ai] aX).g9 aa ab ac ag ae ah aK E af
  refine ⟨Ext.chg hkeep_,?_⟩
  have aZ:=aZ.fr br cp
  refine .go 6<|.cl (fun bt aT=>JZ (BN a (j:Int)) (BN b (j:Int)) (aK.ta.ext aT) (aZ.ta.ext aT) (by exact Nq p0 _) (by exact Nq p1 _) (w:=bt) (F:=all)) ?_
  intro bt aT
  replace ⟨aa,ab,ac,ag,ae,ah,E,af⟩:=(se [al,r_out_1,r_out_0,ak,aj,ai] aT).g8 aa ab ac ag ae ah E af
  rintro eV eW ⟨⟨eX,rfl,⟨dA,dB,rfl,ao⟩⟩,aY⟩
  have bu:=al6 ah.lt ae.lt ag.lt ac.lt ab.lt aa.lt
  have cq:Gb w.heap.size bt.heap.size:=E.size
  have hkeep_:=aY
  replace ⟨aa,ab,ac,ag,ae,ah,E,af⟩:=(se [al,r_out_1,r_out_0,ak,aj,ai] aY).g8 aa ab ac ag ae ah E af
  refine ⟨Ext.chg hkeep_,?_⟩
  have ao:=ao.fr bu cq
  refine .r [7,8] ?_
  cases eg:(CR (BN a (j:Int)) (BN b (j:Int))).2
  ·refine .r [9,10]<|.d fun eY bv=>?_
   replace ⟨aa,ab,ac,ag,ae,ah,ao,E,af⟩:=(se [al,r_out_1,r_out_0,ak,aj,ai] bv).g9 aa ab ac ag ae ah ao E af
   refine .r 1<|.d<|.s<|.s<|.g<|.r 2<|.d<|.ct<|.s<|.g<|.r 1<|.sc [AH,AH] ac fun eZ bw cr cu=>?_
   replace ⟨aa,ab,ag,ae,ah,ao,E⟩:=(so [al,r_out_1,r_out_0,ak,aj,ai] bw).g7 aa ab ag ae ah ao E
   exact .r 1<|.d<|.r2 func124 results124 (.bx cr) (.t (.bool false)) ⟨⟨_,(Bk rfl (AG (by exact (congrArg Prod.snd (R5 (k:=j) AB AB ‹_›)).symm))),(VS.of (y:=(⟨([]:List Int),([]:List (List Row))⟩:Prt)) ⟨_,rfl,⟨_,_,_,_,_,_,rfl,(RepS.BX _ _ none 0 AE),(RepS.BX _ _ none 0 AE)⟩⟩ (by exact (congrArg Prod.fst (R5 (k:=j) AB AB ‹_›)).symm))⟩,E⟩
  refine .r [9,10]<|.d fun e7 bz=>?_
  replace ⟨aa,ab,ac,ag,ae,ah,ao,E,af⟩:=(se [al,r_out_1,r_out_0,ak,aj,ai] bz).g9 aa ab ac ag ae ah ao E af
  refine .r 1<|.d<|.s<|.s<|.g<|.r 2<|.d<|.cf<|.sk<|.s<|.g<|.r 2<|.bp (((((CR (BN a (j:Int)) (BN b (j:Int))).1).length):Int) > 0) (fun cw=>?_) (fun cw=>.d<|.cf<|.sk<|.ib 1<|.g<|.r 1<|.it ((j:Int)+1)<|.r 1<|.d<|aQ (j+1,ax,r_out_0,n_out_0,c_out_0,ay,r_out_1,n_out_1,c_out_1) _ _ ⟨AA,AA,AA,AA,AA,trivial⟩ ⟨af,ag,aq,ae,ar,bj,ah,AB,AB,AB,AB,(by exact W1 ‹_› ‹_› AB ‹_› ‹_› ‹_›),(by exact W3 ‹_› ‹_› AB ‹_› ‹_› ‹_›),(by exact Pq ‹_› AB ‹_›)⟩ (by (simp only []; omega)))
  refine .d<|.ct<|.s<|.g<|.r 1<|.lb ah<|.r 1<|.ns 1 3 [vI (j:Int)] fun bV e8 az bA cx cy=>?_
  have cz:=Ad az aa.lt
  have cA:=Ad az ab.lt
  have cB:=Ad az ac.lt
  have bB:=Ad az ag.lt
  have cC:=Ad az ae.lt
  have cD:=Ad az ah.lt
  have cE:=Bq az E.size
  replace ⟨aa,ab,ac,ag,ae,ah,ao,E,af⟩:=(se [al,r_out_1,r_out_0,ak,aj,ai] bA).g9 aa ab ac ag ae ah ao E af
  have ba:nin (ge w.heap.size) [al,r_out_1,r_out_0,ak,aj,ai] bV∧bV≠r_out_0:=GH cE (all_cons cD (all_cons cC (all_cons bB (all_cons cB (all_cons cA (all_cons cz all_nil)))))) bB
  refine RG.DV (T:=40) (ty:=40) (y:=(j:Int)) ag cx AA AA rfl ba AB fun aN bW fa am aF bC=>?_
  have cF:=CI aF (Nb.symm bj) ae.lt
  have eh:=CI aF cd ah.lt
  have cG:=J2 aF aq af.size
  replace ⟨aa,ab,ac,ae,ah,ao,E,af⟩:=(sa [al,r_out_1,r_out_0,ak,aj,ai] bC aF).g8 aa ab ac ae ah ao E af
  replace am:=am.rn r_out_0
  have ej:=am.len
  refine .r 1<|.ss 0 (vS aN (n_out_0+1) bW) ah fun fb bD aA cH=>?_
  replace ⟨aa,ab,ac,am,ae,ao,E,af⟩:=(so [al,r_out_1,aN,ak,aj,ai] bD).g8 aa ab ac am ae ao E af
  refine .d<|.g<|.r 1<|.lb aA<|.r 1<|.ns 1 76 [.slice dA (((CR (BN a (j:Int)) (BN b (j:Int))).1).length) dB] fun bX fd aB bE cI cJ=>?_
  have cK:=Ad aB aa.lt
  have cL:=Ad aB ab.lt
  have cM:=Ad aB ac.lt
  have cN:=Ad aB am.lt
  have bF:=Ad aB ae.lt
  have cO:=Ad aB aA.lt
  have cP:=Bq aB E.size
  replace ⟨ac,am,ae,aA,ao,E,af⟩:=(se [al,r_out_1,aN,ak,aj,ai] bE).g7 ac am ae aA ao E af
  have bd:nin (ge w.heap.size) [al,r_out_1,aN,ak,aj,ai] bX∧bX≠r_out_1:=GH cP (all_cons cO (all_cons bF (all_cons cN (all_cons cM (all_cons cL (all_cons cK all_nil)))))) bF
  refine RG.DV (T:=122) (ty:=122) (y:=(CR (BN a (j:Int)) (BN b (j:Int))).1) ae cI AA AA ⟨_,_,_,rfl,ao.oi⟩ bd AB fun bG bY fe aD aG bH=>?_
  have cQ:=CI aG (Nb.symm cF) am.lt
  have en:=CI aG cg aA.lt
  have cR:=J2 aG ar af.size
  replace ⟨ac,am,aA,E,af⟩:=(sa [al,r_out_1,aN,ak,aj,ai] bH aG).g5 ac am aA E af
  replace aD:=aD.rn r_out_1
  have eA:=aD.len
  refine .r 1<|.ss 1 (vS bG (n_out_1+1) bY) aA fun ff bI cS cT=>?_
  replace ⟨ac,am,aD,E,af⟩:=(so [al,bG,aN,ak,aj,ai] bI).g5 ac am aD E af
  exact .d<|.ib 1<|.g<|.r 1<|.it ((j:Int)+1)<|.r 1<|.d<|aQ (j+1,(ax++[(j:Int)]),aN,n_out_0+1,bW,(ay++[(CR (BN a (j:Int)) (BN b (j:Int))).1]),bG,n_out_1+1,bY) _ _ ⟨AA,AA,AA,AA,AA,trivial⟩ ⟨af,am,cG,aD,cR,cQ,cS,AB,AB,AB,AB,(by exact W0 ‹_› ‹_› AB ‹_› ‹_› ‹_›),(by exact W2 ‹_› ‹_› AB ‹_› ‹_› ‹_›),(by exact Pq ‹_› AB ‹_›)⟩ (by (simp only []; omega))
 refine .d<|.cf<|.x 0 rfl<|.s<|.g<|.ln ah<|.sc [vS r_out_0 n_out_0 c_out_0,vS r_out_1 n_out_1 c_out_1] ac fun bZ bJ cU cV=>?_
 replace ⟨ag,ae,E⟩:=(so [al,r_out_1,r_out_0,ak,aj,ai] bJ).g3 ag ae E
 refine .r 1<|.d ?_
 have bK:=ag.sl ce
 replace ae:=(sd bZ [al,r_out_1,r_out_0,ak,aj,ai] r_out_0).g1 ae
 have dC:=ae.sl ci
 replace bK:=(sd bZ [al,r_out_1,ak,aj,ai] r_out_1).g1 bK
 exact .r2 func124 results124 (.bx cU) (.t (.bool true)) ⟨⟨_,(Bk rfl (AG (by exact (R7 (k:=j) AB ‹_› ‹_› ‹_› ‹_› ‹_›).2))),(VS.of (y:=(⟨ax,ay⟩:Prt)) ⟨_,rfl,⟨_,_,_,_,_,_,rfl,bK.w1,dC.w1⟩⟩ (by exact (R7 (k:=j) AB ‹_› ‹_› ‹_› ‹_› ‹_›).1))⟩,E⟩
end Go.Proofs.YtckdhcbbgmiccaaGreatDoor
namespace Go.Proofs.YtckdhcbbgmiccaaGreatDoor
theorem Pr {P:Program}{T ty t:TypeId}{sz:Nat}{w:World}{r i c m c':Nat}{a2:Option Addr}{cs vs:List Value}(hT:GG P T t sz=true) (hB:Box w r t cs) (hsrc:0< m→∃ x,a2=some x∧Has w x vs) (hvs:vs.length=m * sz) (hroom:i+m≤c) (hfit:i * sz+vs.length≤cs.length) (hone:∀ v∈vs,Dq v=true) :
 ∃ w',(Builtin.append_ #[T,T] ty #[.slice (some ⟨r,0,none⟩) i c,.slice a2 m c']).run P w=.ok (.slice (some ⟨r,0,none⟩) (i+m) c) w'∧Box w' r t (BH cs (i * sz) vs)∧Chg (one r) w w':=by
 obtain ⟨g1,inf,z,hinf,hsz,_,_,_⟩:=FO hT
 by_cases hm:m=0
 ·subst hm
  have:vs=[]:=List.length_eq_zero_iff.1 AB
  subst this
  refine ⟨w,G8 g1 hinf _ _ _ _ _ AB w,?_,Chg.refl _ _⟩
  unfold BH
  simpa using hB
 ·obtain ⟨x,rfl,hx⟩:=hsrc AB
  unfold Box at hB
  have hr:=run_append_room (P:=P) w T ty t inf g1 hinf r i c cs.toArray hB x m c' vs (by rw [hsz]; exact hvs) hx (fun u hu=>PE (hone u hu)) hroom (by rw [hsz]; simpa using hfit)
  rw [hsz] at hr
  have hset:(w.setRow r (BH cs (i * sz) vs).toArray).heap[r]? = some (.cells (BH cs (i * sz) vs).toArray t (0,0)):=setRow_heap w r cs.toArray _ t _ hB
  refine ⟨_,hr,hset,⟨rfl,rfl,rfl,by simp [World.setRow],fun k _ hn=>setRow_other w r k _ hn⟩⟩
def W4 (P:Program) (T t:TypeId) (sz:Nat):Bool :=
 (match P.underlying T with | some (.slice e)=>Nat.beq e t | _=>false) &&
 (match P.info? t with | some i=>(match i.zero with | some z=>Nat.beq z.cells.size sz&&z.cells.toList.all Dq | none=>false) | none=>false)
theorem Ps {P:Program}{T ty t:TypeId}{sz:Nat}{w:World}{r o c:Nat}{cs:List Value}(hT:W4 P T t sz=true) (hB:Box w r t cs) (hfit:o+sz≤cs.length) :
 ∃ vs w',(Builtin.clear_ #[T] ty #[.slice (some ⟨r,o,none⟩) 1 c]).run P w=.ok (.tuple #[]) w'∧vs.length=sz∧Box w' r t (BH cs o vs)∧Chg (one r) w w':=by
 unfold W4 at hT
 simp only [AW] at hT
 obtain ⟨h1,h2⟩:=hT
 split at h1
 ·rename_i e he
  have:=Nat.eq_of_beq_eq_true h1
  subst this
  split at h2
  ·rename_i inf hinf
   split at h2
   ·rename_i z hz
    simp only [AW,List.all_eq_true] at h2
    have hsz:=Nat.eq_of_beq_eq_true h2.1
    have hl:(Builtin.zeroCells z.cells 1).toList.length=sz:=by rw [Array.length_toList,size_zeroCells,hsz]; omega
    have ho:∀ v∈(Builtin.zeroCells z.cells 1).toList,Dq v=true:=fun v hv=>by
     unfold Builtin.zeroCells at hv
     simp only [Array.toList_map,List.mem_map,Array.toList_range,List.mem_range] at hv
     obtain ⟨k,hk,rfl⟩:=hv
     have hk2:k % z.cells.size< z.cells.size:=Nat.mod_lt _ AB
     refine h2.2 _ ?_
     rw [getElem!_pos z.cells _ hk2]
     exact Array.getElem_mem_toList hk2
    obtain ⟨w',g1,g2,g3,_⟩:=hB.OH (P:=P) (Builtin.zeroCells z.cells 1).toList (o:=o) (i:=0) AB ho
    refine ⟨_,w',?_,hl,g2,g3⟩
    have hv:(zeroValue e).run P w=.ok z w:=by simp [zeroValue,typeInfo,hinf,hz,go_sem]
    unfold Builtin.clear_
    simp only [List.getElem?_toArray,List.getElem?_cons_zero]
    rw [AX (run_underlying he w)]
    simp only []
    rw [AX hv,AX g1]
    rfl
   ·cases h2
  ·cases h2
 ·cases h1
section
variable {P:Program} {n:Nat} {K:Env→World→Prop} {ops:Array Oper} {j:Nat} {e:Env} {w:World}
theorem RG.clear {ats:List TypeId}{ty:TypeId}{args:List Value}{v:Value}{w':World}(h:Cm n ops j e=some (.clear,ats,ty,args))
 (hr:(Builtin.clear_ ats.toArray ty args.toArray).run P w=.ok v w') (H:RG P n K ops (j+1) (Am e (Ae ops j).dst v) w'):RG P n K ops j e w:=by
 obtain ⟨hg,h⟩:=Ci h
 refine RG.val (v:=v) hg ?_ H
 split at h
 ·rename_i c hop
  split at h
  ·rename_i b hcal
   simp only [Option.some.injEq,Prod.mk.injEq] at h
   obtain ⟨rfl,rfl,rfl,rfl⟩:=h
   have ha:(c.args.toList.map (ev e)).toArray=c.args.map (ev e):=by apply Array.toList_inj.1; simp
   rw [ha,Array.toArray_toList] at hr
   simp only [execOp,hop,resolve,hcal]
   exact AX hr
  ·cases h
 ·cases h
def Zx (n:Nat) (ops:Array Oper) (j:Nat) (e:Env):Option (TypeId × Value × Value × Value × Value) :=
 bif Cj n ops j e then
  match (Ae ops j).op with
  | .slice t x (some lo) (some hi) (some mx)=>some (t,ev e x,ev e lo,ev e hi,ev e mx)
  | _=>none
 else none
theorem RG.Zy {t:TypeId}{sz:Nat}{a:Option Addr}{len cap:Nat}{k k2 k3:IntKind}{i1 i2 i3:Int}(l h' m:Nat) (h:Zx n ops j e=some (t,.slice a len cap,.int k i1,.int k2 i2,.int k3 i3)) (ht:K5 P t sz=true) (e1:i1=(l:Int)) (e2:i2=(h':Int)) (e3:i3=(m:Int)) (hlh:l≤h') (hh:h'≤m) (hm:m≤cap)
 (H:∀ v,RG P n K ops (j+1) (Am e (Ae ops j).dst v) w):RG P n K ops j e w:=by
 obtain ⟨hg,h⟩:=Ci h
 unfold K5 at ht
 split at ht
 ·rename_i el hu
  split at ht
  ·rename_i inf hinf
   have hun:(underlying t).run P w=.ok (.slice el) w:=by simp [underlying,hu,go_sem]
   refine RG.val (v:=.slice (if m=l then a else a.map (·.add (l * inf.size))) (h' - l) (m - l)) hg ?_ (H _)
   split at h
   ·rename_i t' x lo hi mx hop
    simp only [Option.some.injEq,Prod.mk.injEq] at h
    obtain ⟨rfl,hx,hlo,hhi,hmx⟩:=h
    simp only [execOp,hop]
    refine AX ?_
    simp only [Option.map_some,hx,hlo,hhi,hmx]
    unfold Instr.sliceAt
    rw [AX hun]
    simp only []
    unfold Instr.slice
    rw [AX hun]
    simp only []
    have hb:(Instr.sliceBounds true len cap (some (.int k i1)) (some (.int k2 i2)) (some (.int k3 i3))).run P w=.ok (l,h',m) w:=by
     unfold Instr.sliceBounds
     simp only []
     rw [AX (El e3 hm w),AX (El e2 hh w),AX (El e1 hlh w)]
     rfl
    rw [AX hb]
    simp only []
    rw [AX (show (sizeOf el).run P w=.ok inf.size w by simp [sizeOf,typeInfo,hinf,go_sem])]
    rfl
   ·cases h
  ·cases ht
 ·cases ht
end
theorem GA.Zz {P:Program}{S:Nat→Prop}{n m:Nat}{L:Env→World→Prop}{ops:Array Oper}{l:List Nat}{e:Env}{w:World}{i:Nat}{t:TypeId}{sz r len cap:Nat}{lo hi:Option Value}(l' h':Nat) (hb:gB n m ops l i=true) (h:DZ n ops i e=some (t,.slice (some ⟨r,0,none⟩) len cap,lo,hi)) (ht:K5 P t sz=true) (hlo:bnd lo 0 l') (hhi:bnd hi len h') (hlh:l'≤h') (hh:h'≤cap)
 (H:∀ a2 c2,(0< h' - l'→a2=some ⟨r,l' * sz,none⟩)→GA P S n m L ops (i::l) (Am e (Ae ops i).dst (.slice a2 (h' - l') c2)) w):GA P S n m L ops l e w:=by
 refine GA.L1 hb (fun w=>?_) (H (if cap=l' then some ⟨r,0,none⟩ else some ⟨r,l' * sz,none⟩) (cap - l') (fun hp=>by rw [if_neg AB]))
 have h1:=EC h (H2 ht hlo hhi hlh hh w)
 simp only [Option.map_some,add_lit,Nat.zero_add] at h1
 exact h1
theorem Own.Yg {α:Type}[Rep α] {w:World}{r:Nat}{t:TypeId}{F:Nat→Prop}{n c:Nat}{xs:List α}(h:Own w r t F n c xs):∃ cs,Box w r t cs∧cs.length=c * Rep.sz α:=by
 obtain ⟨cur,h1,h2⟩:=h.row
 exact ⟨cur.toList,by unfold Box; simpa using h1,by simpa using h2⟩
theorem Own.Uu {α:Type}[Rep α] {w w':World}{r:Nat}{t:TypeId}{F:Nat→Prop}{n c i:Nat}{xs:List α}{cs cs':List Value}(h:Own w r t F n c xs) (hx:Chg (one r) w w') (hB:Box w r t cs) (hB':Box w' r t cs') (hl:cs'.length=c * Rep.sz α) (hi:i< n)
 (hp:∀ p,p< (n - 1) * Rep.sz α→cs'[p]? = if p< i * Rep.sz α then cs[p]? else cs[p+Rep.sz α]?):Own w' r t F (n - 1) c (xs.take i++xs.drop (i+1)):=by
 have hn:=h.len
 have hle:=h.le
 have hcap:=h.cap
 unfold Box at hB hB'
 refine ⟨by rw [List.length_append,List.length_take,List.length_drop]; omega,by omega,hcap,⟨cs'.toArray,hB',by simpa using hl⟩,fun k x hk=>?_⟩
 have hfr:∀ b,b< w.heap.size→F b∧b≠r→(F b∧b≠r)∧w'.heap[b]? = w.heap[b]? := fun b hb hF=>⟨hF,hx.block b hb (fun e=>hF.2 e)⟩
 have hk2:k< (xs.take i++xs.drop (i+1)).length:=(List.getElem?_eq_some_iff.1 hk).1
 rw [List.length_append,List.length_take,List.length_drop] at hk2
 by_cases hki:k< i
 ·rw [List.getElem?_append_left (by rw [List.length_take]; omega),List.getElem?_take,if_pos hki] at hk
  obtain ⟨c1,g1,g2⟩:=h.elem k x hk
  refine ⟨c1,Rep.frame g1 hfr,fun u v hv=>?_⟩
  have h3:=g2 u v hv
  have hu:u< Rep.sz α:=by have:=(List.getElem?_eq_some_iff.1 hv).1; rw [Rep.len g1] at this; exact this
  have hm:k * Rep.sz α+Rep.sz α≤i * Rep.sz α:=by rw [← Nat.succ_mul]; exact Nat.mul_le_mul_right _ hki
  have hm2:i * Rep.sz α≤(n - 1) * Rep.sz α:=Nat.mul_le_mul_right _ AB
  rw [add_lit] at h3 ⊢
  simp only [World.cell?,hB] at h3
  simp only [World.cell?,hB']
  have:=hp (k * Rep.sz α+u) AB
  rw [if_pos AB] at this
  simpa [this] using h3
 ·rw [List.getElem?_append_right (by rw [List.length_take]; omega),List.length_take,Nat.min_eq_left AB,List.getElem?_drop] at hk
  rw [show i+1+(k - i)=k+1 by omega] at hk
  obtain ⟨c1,g1,g2⟩:=h.elem (k+1) x hk
  refine ⟨c1,Rep.frame g1 hfr,fun u v hv=>?_⟩
  have h3:=g2 u v hv
  have hu:u< Rep.sz α:=by have:=(List.getElem?_eq_some_iff.1 hv).1; rw [Rep.len g1] at this; exact this
  have hm:k * Rep.sz α+Rep.sz α≤(n - 1) * Rep.sz α:=by rw [← Nat.succ_mul]; exact Nat.mul_le_mul_right _ AB
  have hm2:i * Rep.sz α≤k * Rep.sz α:=Nat.mul_le_mul_right _ AB
  rw [add_lit] at h3 ⊢
  simp only [World.cell?,hB] at h3
  simp only [World.cell?,hB']
  have:=hp (k * Rep.sz α+u) AB
  rw [if_neg AB] at this
  rw [Nat.succ_mul,show k * Rep.sz α+Rep.sz α+u=k * Rep.sz α+u+Rep.sz α by omega] at h3
  simpa [this] using h3
theorem Nr {cs v1 v2:List Value}{n c i sz:Nat}(hl:cs.length=c * sz) (hi:i< n) (hn:n≤c) (h1:v1=(cs.drop ((i+1) * sz)).take ((n - (i+1)) * sz)) (h2:v2.length=sz) :
 (BH (BH cs (i * sz) v1) ((n - 1) * sz) v2).length=c * sz∧∀ p,p< (n - 1) * sz→(BH (BH cs (i * sz) v1) ((n - 1) * sz) v2)[p]? = if p< i * sz then cs[p]? else cs[p+sz]? := by
 have m1:(i+1) * sz+(n - (i+1)) * sz=n * sz:=by rw [← Nat.add_mul]; congr 1; omega
 have m2:(n - 1) * sz+sz=n * sz:=by rw [← Nat.succ_mul]; congr 1; omega
 have m3:n * sz≤c * sz:=Nat.mul_le_mul_right _ hn
 have m4:(i+1) * sz=i * sz+sz:=Nat.succ_mul _ _
 have l1:v1.length=(n - (i+1)) * sz:=by rw [h1,List.length_take,List.length_drop]; omega
 have l2:(BH cs (i * sz) v1).length=c * sz:=by rw [ET AB]; exact hl
 refine ⟨by rw [ET AB]; exact l2,fun p hp=>?_⟩
 unfold BH
 rw [List.append_assoc,List.getElem?_append_left (by rw [List.length_take]; unfold BH at l2; omega),List.getElem?_take,if_pos hp,List.append_assoc]
 by_cases hpi:p< i * sz
 ·rw [if_pos hpi,List.getElem?_append_left (by rw [List.length_take]; omega),List.getElem?_take,if_pos hpi]
 ·rw [if_neg hpi,List.getElem?_append_right (by rw [List.length_take]; omega),List.length_take,Nat.min_eq_left AB,List.getElem?_append_left AB,h1,List.getElem?_take,if_pos AB,List.getElem?_drop]
  congr 1
  omega
variable {w:World} {F:Nat→Prop}
theorem W5 {x:Prt}{cs:List Value}(h:Rep.rep w F x cs):∀ v∈cs,Dq v=true:=Rep.flat h
theorem Own.Dq {w:World}{r:Nat}{t:TypeId}{F:Nat→Prop}{n c i:Nat}{xs:List Prt}{cs:List Value}(h:Own w r t F n c xs) (hB:Box w r t cs):∀ v,i+(n - i)≤n→v∈(cs.drop (i * 2)).take ((n - i) * 2)→Go.Proofs.YtckdhcbbgmiccaaGreatDoor.Dq v=true:=by
 intro v hin hv
 obtain ⟨k,hk⟩:=List.mem_iff_getElem?.1 hv
 rw [List.getElem?_take] at hk
 split at hk
 ·rename_i hlt
  rw [List.getElem?_drop] at hk
  have hn:=h.len
  have hj:i+k / 2< xs.length:=by omega
  obtain ⟨c1,g1,g2⟩:=h.elem (i+k / 2) xs[i+k / 2] (AU hj)
  have hl:c1.length=2:=Rep.len g1
  have hk2:k % 2< c1.length:=by omega
  have h3:=g2 (k % 2) c1[k % 2] (AU hk2)
  have hz:Rep.sz Prt=2:=rfl
  unfold Box at hB
  rw [add_lit,hz] at h3
  simp only [World.cell?,hB] at h3
  have e:(i+k / 2) * 2+k % 2=i * 2+k:=by omega
  rw [e] at h3
  have h4:cs[i * 2+k]? = some c1[k % 2]:=by simpa using h3
  rw [hk] at h4
  cases h4
  exact W5 g1 _ (List.getElem_mem hk2)
 ·cases hk
theorem TI:∀ (is:List Int) (bs:List (List Row)) (o:Option Int),CB o is bs=true→is.length=bs.length→∀ b∈bs,Bn b=true:=by
 intro is
 induction is with
 | nil =>
   intro bs o _ hl b hb
   cases bs with
   | nil=>cases hb
   | cons c cs=>simp at hl
 | cons i is ih =>
   intro bs o h hl b hb
   cases bs with
   | nil=>cases hb
   | cons c cs =>
     unfold CB at h
     simp only [AW] at h
     rcases List.mem_cons.1 hb with rfl | hb
     ·exact h.1.2
     ·exact ih cs (some i) h.2 (by simpa using hl) b hb
theorem Gj {p:Prt}(h:Ay p=true) (id:Int):Bn (partOf p id)=true:=by
 rcases J3 id p.ids p.blocks with h1 | h1
 ·unfold partOf; rw [h1]; rfl
 ·unfold Ay at h
  simp only [AW,decide_eq_true_eq] at h
  exact TI p.ids p.blocks none h.2 h.1 _ h1
theorem Q2 {id t:Int}:∀ (ps:List Prt) (o:List Row),(∀ p∈ps,PrtI p)→Blk o→((look t o).isSome=true∨∃ p∈ps,(look t (partOf p id)).isSome=true)→(look t (ps.foldl (CG id) o)).isSome=true:=by
 intro ps
 induction ps with
 | nil =>
   rintro o _ _ (h | ⟨p,hp,_⟩)
   ·exact h
   ·cases hp
 | cons p ps ih =>
   intro o hI ho h
   have hp:Blk (partOf p id):=(hI p AD).of id
   refine ih _ (fun q hq=>hI q (by simp [hq])) (ho.merge hp) ?_
   have e:look t (CG id o p)=(look t (partOf p id)).or (look t o):=Cw t o ho hp
   rcases h with h | ⟨q,hq,h⟩
   ·refine .inl ?_
    rw [e]
    cases look t (partOf p id) with
    | none=>exact h
    | some x=>rfl
   ·rcases List.mem_cons.1 hq with rfl | hq
    ·refine .inl ?_
     rw [e]
     obtain ⟨x,hx⟩:=Option.isSome_iff_exists.1 h
     rw [hx]; rfl
    ·exact .inr ⟨q,hq,h⟩
theorem Ja {p:Prt}{n:Int}(h:Bv p n=true):∀ i∈p.ids,i≤n:=by
 unfold Bv at h
 simp only [AW] at h
 obtain ⟨h1,h2⟩:=h
 unfold Ay at h1
 simp only [AW,decide_eq_true_eq] at h1
 have key:∀ (is:List Int) (bs:List (List Row)) (o:Option Int),CB o is bs=true→(∀ q,o=some q→∀ i∈is,q< i)∧∀ l,is.getLast? = some l→∀ i∈is,i≤l:=by
  intro is
  induction is with
  | nil=>intro bs o _; exact ⟨fun _ _ i hi=>(by cases hi),fun l hl=>(by simp at hl)⟩
  | cons x xs ih =>
    intro bs o hg
    cases bs with
    | nil=>simp [CB] at hg
    | cons b bs =>
      simp only [CB,AW] at hg
      obtain ⟨k1,k2⟩:=ih bs (some x) hg.2
      have hx:∀ q,o=some q→q< x:=fun q hq=>by
       have:=hg.1.1.1.2
       rw [hq] at this
       simpa using this
      refine ⟨fun q hq i hi=>?_,fun l hl i hi=>?_⟩
      ·rcases List.mem_cons.1 hi with rfl | hi
       ·exact hx q hq
       ·have:=k1 x rfl i hi; have:=hx q hq; omega
      ·cases hc:xs.getLast? with
       | none =>
         have:xs=[]:=List.getLast?_eq_none_iff.1 hc
         subst this
         simp at hl hi
         omega
       | some l2 =>
         have e:(x::xs).getLast? = some l2:=by rw [List.getLast?_cons,hc]; rfl
         rw [e] at hl
         cases hl
         rcases List.mem_cons.1 hi with rfl | hi
         ·have:=k1 i rfl l (List.mem_of_getLast? hc); omega
         ·exact k2 l hc i hi
 intro i hi
 cases hl:p.ids.getLast? with
 | none=>rw [hl] at h2; cases h2
 | some l =>
   rw [hl] at h2
   have:=(key p.ids p.blocks none h1.2).2 l hl i hi
   have h3:l≤n:=by simpa using h2
   omega
theorem Ka {p:Prt}{id:Int}(h:∀ i∈p.ids,i< id):partOf p id=[]:=by
 have key:∀ (is:List Int) (bs:List (List Row)),(∀ i∈is,i< id)→Bj id is bs=[]:=by
  intro is
  induction is with
  | nil=>intro bs _; unfold Bj; rfl
  | cons i is ih =>
    intro bs h
    cases bs with
    | nil=>unfold Bj; rfl
    | cons b bs =>
      unfold Bj
      rw [if_neg (by have:=h i AD; simp; omega)]
      exact ih bs (fun j hj=>h j (by simp [hj]))
 exact key _ _ h
theorem MY {s:Sto}(h:SD s) (hk:Ab s=true){x y:Prt}(hx:x∈s.parts) (hy:y∈s.parts):CN x y=(BJ x y,true):=by
 have hK:=StoK.of h hk
 have ox:=(hK.part x hx).2
 have oy:=(hK.part y hy).2
 unfold CN
 rw [if_pos]
 refine ⟨ox,oy,?_⟩
 unfold okM
 rw [List.all_eq_true]
 intro i hi
 rw [List.mem_range] at hi
 have e1:BN x ((i:Int)+1)=partOf x ((i:Int)+1):=by unfold BN; rw [if_pos ox]
 have e2:BN y ((i:Int)+1)=partOf y ((i:Int)+1):=by unfold BN; rw [if_pos oy]
 rw [e1,e2]
 have b1:=Gj ox ((i:Int)+1)
 have b2:=Gj oy ((i:Int)+1)
 have hl:(Bl (partOf x ((i:Int)+1)) (partOf y ((i:Int)+1))).length≤24:=by
  unfold Ab at hk
  simp only [AW,decide_eq_true_eq,List.all_eq_true,List.mem_range,FF] at hk
  by_cases hin:i< s.idx.names.length
  ·have bb:=(Kz b1).merge (Kz b2)
   have hP:Blk (s.parts.foldl (CG ((i:Int)+1)) []):=Gi h.part Blk.nil
   refine Nat.le_trans (Od bb (b:=rowsOf s ((i:Int)+1)) ?_ (fun t ht=>?_)) (hk.2 i hin)
   ·exact (EW 0 _ s.mem _ hK.row hP).2
   ·refine Rw hK _ t (.inl (Q2 s.parts [] h.part Blk.nil (.inr ?_)))
    rw [Cw t _ (Kz b1) (Kz b2)] at ht
    cases hc:look t (partOf y ((i:Int)+1)) with
    | some q=>exact ⟨y,hy,by rw [hc]; rfl⟩
    | none=>rw [hc] at ht; exact ⟨x,hx,ht⟩
  ·have g:=fun p hp=>Ka (p:=p) (id:=(i:Int)+1) (fun j hj=>by have:=Ja (hk.1.1.2 p hp) j hj; omega)
   rw [g x hx,g y hy]
   decide
 unfold CR
 rw [if_pos ⟨b1,b2,by omega⟩]
theorem MZ {s:Sto}{i:Int}(_h:SD s) (hk:Ab s=true) (h1:inR i 0 ((s.parts.length:Int) - 2)=false):BT s i=(Ai s,false):=by
 rw [G3 hk]; exact L8 h1
theorem Pt {s:Sto}{i:Int}{x y:Prt}(h:SD s) (hk:Ab s=true) (h1:inR i 0 ((s.parts.length:Int) - 2)=true) (hx:s.parts[i.toNat]? = some x) (hy:s.parts[(i+1).toNat]? = some y) :
 BT s i=(⟨(Ai s).idx,[]++(((Ai s).parts.set i.toNat (CN x y).1).take (i.toNat+1)++((Ai s).parts.set i.toNat (CN x y).1).drop (i.toNat+1+1)),(Ai s).mem⟩,true):=by
 have h2:=Bd h1
 have hx2:=(List.getElem?_eq_some_iff.1 hx).1
 rw [G3 hk]
 have e:=L9 (s:=Ai s) (a:=i) (x:=x) (y:=y) h1 hx hy
 rw [e,MY h hk (AV hx) (AV hy)]
 have ep:(Ai s).parts=s.parts:=rfl
 rw [ep]
 have e2:(i+2).toNat=i.toNat+2:=by omega
 congr 2
 rw [e2,List.nil_append,List.nil_append,List.drop_zero,List.take_length]
 congr 1
 ·rw [List.take_add_one,List.take_set_of_le (Nat.le_refl _),List.getElem?_set_self (by exact hx2)]
  rfl
 ·rw [List.drop_set_of_lt AB]
end Go.Proofs.YtckdhcbbgmiccaaGreatDoor
namespace Go.Proofs.YtckdhcbbgmiccaaGreatDoor
set_option maxRecDepth 100000
set_option maxHeartbeats 4000000
variable {w:World} {F:Nat→Prop}
theorem LK {r n c i:Nat}{xs:List Prt}{a b:Int}(ho:Own w r 124 F n c xs) (ha:a=(i:Int)) (hb:b=(i:Int)+1) (hi:i< n) (hn:n≤1000000):Calls Tryz.prog 126 [.slice (some ⟨r,0,none⟩) n c,.int .i64 a,.int .i64 b].toArray w (Al fun rv w'=>(rv=.slice (some ⟨r,0,none⟩) (n - 1) c∧Own w' r 124 F (n - 1) c (xs.take i++xs.drop (i+1)))∧Chg (one r) w w'):=by
 subst ha hb
 refine goT func126 ?_
 have hle:=ho.le
 obtain ⟨cs,hB,hl⟩:=ho.Yg
 have hz:Rep.sz Prt=2:=rfl
 rw [hz] at hl
 refine .s<|.g<|.r 1<|.d<|.s<|.g<|.r 5<|RG.Zy (t:=35) (k:=.i64) (k2:=.i64) (k3:=.i64) (a:=some ⟨r,0,none⟩) (len:=n) (cap:=c) (i1:=(i:Int)) (i2:=(i:Int)+1) (i3:=(n:Int)) (sz:=2) i (i+1) n AA AA rfl AB rfl AB AB hle fun v_=>.d<|.s<|.s<|.g<|.r 2<|.eq (i:Int) ((i:Int)+1) (fun h=>absurd (show False by omega) id) fun _=>.d<|.cf<|.sk<|.s<|.g<|.r 3<|.d<|.s<|.gd (one r) 7 fun w1 hx1=>?_
 refine .r [0,1]<|GA.IH (i:=2) (t:=35) (r:=r) (o:=0) (len:=n) (cap:=c) (lo:=none) (hi:=some (vI (i:Int))) (sz:=2) 0 i AA AA AA (.inl ⟨rfl,rfl⟩) (.inr ⟨_,_,rfl,rfl⟩) AB AB AB<|.r [3,4]<|GA.Zz (i:=5) (t:=35) (r:=r) (len:=n) (cap:=c) (lo:=some (vI ((i:Int)+1))) (hi:=none) (sz:=2) (i+1) n AA AA AA (.inr ⟨_,_,rfl,by omega⟩) (.inl ⟨rfl,rfl⟩) AB AB fun a2 c2 h2=>?_
 refine .go 6<|GE.append (T:=35) (ty:=35) (args:=[.slice (some ⟨r,0,none⟩) i c,.slice a2 (n - (i+1)) c2]) AA fun w2 hx2=>?_
 have hx12:Ext w w2:=hx1.trans hx2
 have m1:(i+1) * 2+(n - (i+1)) * 2=n * 2:=by omega
 have hB2:=hB.ext hx12
 obtain ⟨w3,hr,hB3,hx3⟩:=Pr (P:=Tryz.prog) (T:=35) (ty:=35) (t:=124) (sz:=2) (i:=i) (c:=c) (m:=n - (i+1)) (c':=c2) (a2:=a2) (vs:=(cs.drop ((i+1) * 2)).take ((n - (i+1)) * 2)) AA hB2
  (fun hp=>⟨_,h2 hp,fun k u hu=>by
   rw [add_lit]
   unfold Box at hB2
   simp only [World.cell?,hB2]
   rw [List.getElem?_take] at hu
   split at hu
   ·rw [List.getElem?_drop] at hu
    simpa using hu
   ·cases hu⟩) (by rw [List.length_take,List.length_drop]; omega) AB (by rw [List.length_take,List.length_drop]; omega) (fun v hv=>ho.Dq (i:=i+1) hB v AB hv)
 refine ⟨_,w3,hr,hx3,.d fun w4 hx4=>.r 1<|.d<|.s<|.g<|.r 4<|?_⟩
 have hB4:=hB3.ext hx4
 have hlen:i+(n - (i+1))=n - 1:=by omega
 rw [hlen]
 refine RG.IH (t:=35) (r:=r) (o:=0) (len:=n - 1) (cap:=c) (lo:=some (vI ((n - 1:Nat):Int))) (hi:=some (vI (n:Int))) (sz:=2) (n - 1) n AA AA (.inr ⟨_,_,rfl,rfl⟩) (.inr ⟨_,_,rfl,rfl⟩) AB AB AB ?_
 have h1:n - (n - 1)=1:=by omega
 rw [h1]
 have hl4:(BH cs (i * 2) ((cs.drop ((i+1) * 2)).take ((n - (i+1)) * 2))).length=c * 2:=by rw [ET (by rw [List.length_take,List.length_drop]; omega)]; exact hl
 obtain ⟨vs,w5,hr5,hv5,hB5,hx5⟩:=Ps (P:=Tryz.prog) (T:=35) (ty:=0) (t:=124) (sz:=2) (o:=0+(n - 1) * 2) (c:=c - (n - 1)) AA hB4 AB
 rw [Nat.zero_add] at hB5
 have hd:=Nr (sz:=2) hl hi hle rfl hv5
 have hx:Chg (one r) w w5:=(((hx12.chg (S:=one r)).trans hx3).trans hx4.chg).trans hx5
 refine RG.clear (ats:=[35]) (ty:=0) (args:=[.slice (some ⟨r,0+(n - 1) * 2,none⟩) 1 (c - (n - 1))]) AA hr5<|.d<|.s<|.g<|.r 2<|.d<|.rt func126 results126 (.slice (some ⟨r,0,none⟩) (n - 1) c) ⟨⟨rfl,Own.Uu ho hx hB hB5 (by rw [hz]; exact hd.1) hi (by rw [hz]; exact hd.2)⟩,hx⟩
end Go.Proofs.YtckdhcbbgmiccaaGreatDoor
namespace Go.Proofs.YtckdhcbbgmiccaaGreatDoor
set_option maxRecDepth 100000
set_option maxHeartbeats 4000000
variable {w:World} {F:Nat→Prop} {a1 a2 a3 a4:Option Addr} {n1 c1 n2 c2 n3 c3 n4 c4:Nat}
set_option maxRecDepth 100000 in
set_option maxHeartbeats 4000000 in
theorem Jb (s:Sto) (at_:Int) (h1:RepS w F a1 n1 c1 s.idx.names) (h2:RepS w F a2 n2 c2 s.idx.AY) (h3:RepS w F a3 n3 c3 s.parts) (h4:RepS w F a4 n4 c4 s.mem) (p0:SD s):Calls Tryz.prog 66 [.agg #[.slice a1 n1 c1,.slice a2 n2 c2,.slice a3 n3 c3,.slice a4 n4 c4],.int .i64 at_].toArray w (Al fun rv w'=>(∃ v0,rv=.tuple #[v0,.bool ((BT s at_).2)]∧VS (fo F w.heap.size) w' ((BT s at_).1:Sto) v0)∧Ext w w'):=by
 refine goT func66 ?_
 obtain ⟨rfl,dY,h1⟩:=h1.tp
 obtain ⟨rfl,dZ,h2⟩:=h2.tp
 obtain ⟨rfl,d0,h3⟩:=h3.tp
 obtain ⟨rfl,d3,h4⟩:=h4.tp
 refine .s<|.g<|.np 38 [.slice a1 s.idx.names.length c1,.slice a2 s.idx.AY.length c2,.slice a3 s.parts.length c3,.slice a4 s.mem.length c4] fun ai fa bK bd ab cS=>?_
 replace ⟨h1,h2,h3,h4⟩:=(sn [] bd bK).g4 h1 h2 h3 h4
 have E:=bd
 refine .np 38 [AH,AH,AH,AH] fun ak dy aV bL ae cT=>?_
 have d4:=Ad aV ab.lt
 have d5:=E.cn aV
 replace ⟨h1,h2,h3,h4,ab,E⟩:=(sn [ai] bL aV).g6 h1 h2 h3 h4 ab E
 refine .r 1<|.d<|.s<|.s<|.g<|.ln ab<|.cl (EV s h1.ta h2.ta h3.ta h4.ta p0 (w:=dy) (F:=all)) ?_
 rintro fb b6 ⟨rfl,bM⟩
 replace ⟨h1,h2,h3,h4,ab,ae,E⟩:=(se [ak,ai] bM).g7 h1 h2 h3 h4 ab ae E
 cases d6:(Ab s)
 ·refine .r 1<|.d<|.ct<|.s<|.g<|.r 1<|.sc [AH,AH,AH,AH] ae fun fd bN cU cV=>?_
  replace ⟨h1,h2,h3,h4,ab,E⟩:=(so [ak,ai] bN).g6 h1 h2 h3 h4 ab E
  exact .r 1<|.d<|.r2 func66 results66 (.bx cU) (.t (.bool false)) ⟨⟨_,(Bk rfl (AG (by rw [KZ ‹_›]))),(VS.of (y:=(⟨(⟨([]:List (List Tag)),([]:List Pst)⟩:Idx),([]:List Prt),([]:List Smp)⟩:Sto)) ⟨_,rfl,⟨_,_,_,_,_,_,_,_,_,_,_,_,rfl,(RepS.BX _ _ none 0 AE),(RepS.BX _ _ none 0 AE),(RepS.BX _ _ none 0 AE),(RepS.BX _ _ none 0 AE)⟩⟩ (by rw [KZ ‹_›]))⟩,E⟩
 refine .r 1<|.d<|.cf<|.sk<|.s<|.g<|.ln ab<|.cl (EB s h1.ta h2.ta h3.ta h4.ta p0.nm p0.nd p0.sz (w:=b6) (F:=all)) ?_
 rintro fe bg ⟨⟨b7,ff,b8,b9,fg,cd,al,aZ,cW,aj,ce,cg,rfl,af,ag,ah,aF,aa,aL,d7⟩,bh⟩
 have aM:=al2 ae.lt ab.lt
 have aW:Gb w.heap.size b6.heap.size:=E.size
 have bO:=DG aF ab.lt
 have d8:=DG aF ae.lt
 have bP:=Ks aF E.size
 have d9:Cov nil w al:=OO aF E.size
 have bQ:=DG aL ab.lt
 have ec:=DG aL ae.lt
 have bR:=Ks aL E.size
 have bS:Mv [ak,ai] [al,aj,ak,ai] b6 bg:=Mv.cons (Mv.cons (Mv.ext bh) aL) aF
 replace ⟨h3,ab,ae,E⟩:=(sp bS bh).g4 h3 ab ae E
 replace af:RepS bg (nin (ge w.heap.size) [al,aj,ak,ai]) _ _ _ _:=RepS.Fy (s0:=w.heap.size) (M:=[ak,ai]) af aM aW
 replace af:=af.base (G':=fo F w.heap.size) (fun _ _ h=>.inr h)
 have ee:=af.max
 replace ag:RepS bg (nin (ge w.heap.size) [al,aj,ak,ai]) _ _ _ _:=RepS.Fy (s0:=w.heap.size) (M:=[ak,ai]) ag aM aW
 replace ag:=ag.base (G':=fo F w.heap.size) (fun _ _ h=>.inr h)
 have eg:=ag.max
 replace ah:Own bg al 124 (nin (ge w.heap.size) [al,aj,ak,ai]) _ _ _:=Own.Fy (s0:=w.heap.size) (M:=[ak,ai]) ah aM aW
 replace ah:=ah.base (G':=fo F w.heap.size) (fun _ _ h=>.inr h)
 have eh:=ah.max
 have ej:=ah.len
 replace aa:Own bg aj 128 (nin (ge w.heap.size) [al,aj,ak,ai]) _ _ _:=Own.Fy (s0:=w.heap.size) (M:=[ak,ai]) aa aM aW
 replace aa:=aa.base (G':=fo F w.heap.size) (fun _ _ h=>.inr h)
 have cX:=af.len
 subst cX
 have cY:=ag.len
 subst cY
 refine .np 38 [AH,AH,AH,AH] fun am fi az bT cZ c7=>?_
 have eA:=Ad az ab.lt
 have eB:=Ad az ae.lt
 have c8:=Ad az ah.lt
 have ci:=Ad az aa.lt
 have dz:=E.cn az
 replace ⟨h3,ab,ae,af,ag,ah,aa,E⟩:=(sn [al,aj,ak,ai] bT az).g8 h3 ab ae af ag ah aa E
 refine .sc [.slice b7 (((((Ai s)).idx).names).length) b8,.slice b9 (((((Ai s)).idx).AY).length) cd,vS al aZ cW,vS aj ce cg] cZ fun da bi ac cj=>?_
 replace ⟨h3,ab,ae,af,ag,ah,aa,E⟩:=(so [am,al,aj,ak,ai] bi).g8 h3 ab ae af ag ah aa E
 refine .d<|.s<|.s<|.g<|.r 2<|.lb ab<|.r 1<|RG.int ((s.parts.length:Int) - 2) AA (by have:=p0.np; omega)<|.cl (Bp at_ 0 ((s.parts.length:Int) - 2) (w:=da) (F:=all)) ?_
 rintro eC aO ⟨rfl,bj⟩
 replace ⟨h3,ab,ae,af,ag,ah,aa,ac,E⟩:=(se [am,al,aj,ak,ai] bj).g9 h3 ab ae af ag ah aa ac E
 cases bk:(inR at_ 0 ((s.parts.length:Int) - 2))
 ·refine .r 1<|.d<|.ct<|.s<|.g<|.ln ac<|.sc [.slice b7 (((((Ai s)).idx).names).length) b8,.slice b9 (((((Ai s)).idx).AY).length) cd,vS al aZ cW,vS aj ce cg] ae fun bU bm ck cm=>?_
  replace ⟨h3,ab,af,ag,ah,aa,ac,E⟩:=(so [am,al,aj,ak,ai] bm).g8 h3 ab af ag ah aa ac E
  refine .r 1<|.d ?_
  have bn:=ah.sl (.inr bP)
  replace ⟨h3,af,ag,aa⟩:=(sd bU [am,al,aj,ak,ai] al).g4 h3 af ag aa
  have db:=aa.sl (.inr bR)
  replace ⟨h3,af,ag,bn⟩:=(sd bU [am,aj,ak,ai] aj).g4 h3 af ag bn
  exact .r2 func66 results66 (.bx ck) (.t (.bool false)) ⟨⟨_,(Bk rfl (AG (by rw [MZ p0 ‹_› ‹_›]))),(VS.of (y:=(⟨(⟨(((Ai s)).idx).names,(((Ai s)).idx).AY⟩:Idx),((Ai s)).parts,((Ai s)).mem⟩:Sto)) ⟨_,rfl,⟨_,_,_,_,_,_,_,_,_,_,_,_,rfl,af.w1,ag.w1,bn.w1,db.w1⟩⟩ (by rw [MZ p0 ‹_› ‹_›]))⟩,E⟩
 have dB:=Bd bk
 refine .r 1<|.d<|.cf<|.sk<|.s ?_
 replace h3:=h3.C1
 replace af:=af.C1
 replace ag:=ag.C1
 have bo:Gb (ai+1) aO.heap.size:=ab.lt
 have co:Cov (mtb [al,aj] aO.heap.size) aO al:=⟨.inl (.inl AI)⟩
 have cp:Gb (am+1) aO.heap.size:=ac.lt
 refine .gd (mtb [al,aj] aO.heap.size) 20 fun eD bq=>?_
 replace ⟨h3,ab,ae,af,ag,ah,aa,ac,E⟩:=(se [am,al,aj,ak,ai] bq).g9 h3 ab ae af ag ah aa ac E
 refine .r [0]<|.lb 1 ac (DH (all_cons c8 (all_cons ci all_nil)) cp)<|.r [2,3]<|.lb 4 ab (DH (all_cons (Nb.symm bO) (all_cons (Nb.symm bQ) all_nil)) bo)<|.r [5] ?_
 have br:at_.toNat< s.parts.length:=(by have q2:=Bd ‹_›; have q3:(Ai s).parts.length=s.parts.length:=rfl; omega)
 refine GA.idx (i:=6) (at_.toNat) (len:=s.parts.length) (z:=at_) (sz:=2) AA (by have q2:=Bd ‹_›; omega) br (h3.addr (Nat.zero_lt_of_lt br)) ?_
 obtain ⟨aA,aI⟩:∃ y,s.parts[at_.toNat]? = some y:=⟨_,AU (by have q2:=Bd ‹_›; omega)⟩
 have de:=AV aI
 obtain ⟨_,⟨eE,eF,eG,eH,eI,eJ,rfl,bt,bu⟩,cq⟩:=h3.elem (at_.toNat) aA aI
 have cr:=bt.len
 subst cr
 have cu:=bu.len
 subst cu
 refine .lg 7 0 cq (h3.nS (Ly aI) (all_cons AJ (all_cons AK all_nil)))<|.r [8]<|.lb 9 ab (DH (all_cons (Nb.symm bO) (all_cons (Nb.symm bQ) all_nil)) bo)<|.r [10]<|GA.int (i:=11) (at_+1) AA (by have:=p0.np; omega) ?_
 have bv:(at_+1).toNat< s.parts.length:=(by have q2:=Bd ‹_›; have q3:(Ai s).parts.length=s.parts.length:=rfl; omega)
 refine GA.idx (i:=12) ((at_+1).toNat) (len:=s.parts.length) (z:=at_+1) (sz:=2) AA (by have q2:=Bd ‹_›; omega) bv (h3.addr (Nat.zero_lt_of_lt bv)) ?_
 obtain ⟨aB,aJ⟩:∃ y,s.parts[(at_+1).toNat]? = some y:=⟨_,AU (by have q2:=Bd ‹_›; omega)⟩
 have df:=AV aJ
 obtain ⟨_,⟨eK,eL,eM,eN,eO,eP,rfl,bw,bz⟩,cw⟩:=h3.elem ((at_+1).toNat) aB aJ
 have cx:=bw.len
 subst cx
 have cy:=bz.len
 subst cy
 refine .lg 13 0 cw (h3.nS (Ly aJ) (all_cons AJ (all_cons AK all_nil)))<|.go 14<|.cl (fun bA ay=>Ep aA aB (bt.ta.ext ay) (bu.ta.ext ay) (bw.ta.ext ay) (bz.ta.ext ay) (by exact (p0.part _ ‹_›).sz) (by exact (p0.part _ ‹_›).sz) (w:=bA) (F:=all)) ?_
 intro bA ay
 replace ⟨ab,ae,af,ag,ah,aa,ac,E⟩:=(se [am,al,aj,ak,ai] ay).g8 ab ae af ag ah aa ac E
 rintro eQ dh ⟨⟨eR,rfl,⟨_,rfl,⟨dj,eS,dm,dp,eT,dq,rfl,aC,aD⟩⟩⟩,aQ⟩
 have aR:=al5 ac.lt ah.lt aa.lt ae.lt ab.lt
 have bB:Gb w.heap.size bA.heap.size:=E.size
 have hkeep_:=aQ
 replace ⟨ab,ae,af,ag,ah,aa,ac,E⟩:=(se [am,al,aj,ak,ai] aQ).g8 ab ae af ag ah aa ac E
 refine ⟨Ext.chg hkeep_,?_⟩
 have aC:=aC.fr aR bB
 replace aC:=aC.base (G':=fo F w.heap.size) (fun _ _ h=>.inr h)
 have dI:=aC.max
 have aD:=aD.fr aR bB
 replace aD:=aD.base (G':=fo F w.heap.size) (fun _ _ h=>.inr h)
 have dJ:=aD.max
 have cz:=aC.len
 subst cz
 have cA:=aD.len
 subst cA
 refine .r [15,16,17] ?_
 have cB:at_.toNat< aZ:=(by have q2:=Bd ‹_›; have q3:(Ai s).parts.length=s.parts.length:=rfl; omega)
 refine GA.idx (i:=18) (b:=al) (o:=0) (at_.toNat) (len:=aZ) (z:=at_) (sz:=2) AA (by have q2:=Bd ‹_›; omega) cB rfl<|.go 19 ?_
 obtain ⟨aP,aK⟩:∃ y,(((Ai s)).parts)[at_.toNat]? = some y:=⟨_,AU (by have q2:=Bd ‹_›; omega)⟩
 obtain ⟨_,⟨bV,eU,bW,bX,eV,bY,rfl,aX,aY⟩,aS⟩:=ah.elem (at_.toNat) aP aK
 replace aX:=aX.Bx (fun _ _ h=>h.1)
 replace aY:=aY.Bx (fun _ _ h=>h.1)
 have cC:=aX.len
 subst cC
 have cD:=aY.len
 subst cD
 replace aS:Has dh ⟨al,0+(at_.toNat) * Rep.sz Prt,none⟩ [.slice bV aP.ids.length bW,.slice bX aP.blocks.length bY]:=by rw [Nat.zero_add]; exact aS
 refine GE.FV (t':=124) (q:=(at_.toNat)) (k:=0) (v:=.agg #[.slice dj ((CN aA aB).1.ids.length) dm,.slice dp ((CN aA aB).1.blocks.length) dq]) (cs:=[.slice bV aP.ids.length bW,.slice bX aP.blocks.length bY]) ((CN aA aB).1) ah aK aS ⟨_,_,_,_,_,_,rfl,aC.oi,aD.oi⟩ AA AA AA fun eW bC=>?_
 replace ⟨ab,ae,af,ag,aa,ac,E⟩:=(se [am,al,aj,ak,ai] bC).g7 ab ae af ag aa ac E
 intro eX ax aT cE
 have hkeep_:=Chg.toS aT (Cov.toS co)
 replace ⟨ab,ae,af,ag,aa,ac,E⟩:=(so [am,al,aj,ak,ai] aT).g7 ab ae af ag aa ac E
 refine ⟨hkeep_,?_⟩
 refine .d fun eY bD=>?_
 replace ⟨ab,ae,af,ag,ax,aa,ac,E⟩:=(se [am,al,aj,ak,ai] bD).g8 ab ae af ag ax aa ac E
 replace af:=af.BS
 replace ag:=ag.BS
 refine .d<|.s<|.g<|.ns 0 124 [] fun aG du ao bE cF cG=>?_
 have cH:=Ad ao ab.lt
 have cI:=Ad ao ae.lt
 have dN:=Ad ao ax.lt
 have cJ:=Ad ao aa.lt
 have cK:=Ad ao ac.lt
 have cL:=Bq ao E.size
 have dO:=E.cn ao
 replace ⟨ab,ae,af,ag,ax,aa,ac,E⟩:=(sn [am,al,aj,ak,ai] bE ao).g8 ab ae af ag ax aa ac E
 have aE:Own (α:=Prt) du aG 124 (nin (fo F w.heap.size) [aG,am,al,aj,ak,ai]) 0 0 []:=Own.BX cF
 refine .r 1<|.lb ac<|.r 1<|RG.int (at_+1) AA (by have:=p0.np; omega)<|.r 1<|RG.int (at_+2) AA (by have:=p0.np; omega) ?_
 have cM:=ax.len; rw [List.length_set] at cM
 refine .cl (LK (i:=(at_.toNat+1)) (a:=at_+1) (b:=at_+2) ax (by have q2:=Bd ‹_›; omega) (by have q2:=Bd ‹_›; omega) (by have q2:=Bd ‹_›; have q3:(Ai s).parts.length=s.parts.length:=rfl; omega) (by have q2:=Bd ‹_›; have q3:(Ai s).parts.length=s.parts.length:=rfl; have q4:=p0.np; omega)) ?_
 rintro eZ dv ⟨⟨rfl,aU⟩,bF⟩
 replace ⟨ab,ae,af,ag,aa,ac,aE,E⟩:=(so [aG,am,al,aj,ak,ai] bF).g8 ab ae af ag aa ac aE E
 have dQ:=aU.len; have dR:=aU.max
 have dw:=aU.sl (.inr bP)
 replace ⟨af,ag,aa,aE⟩:=(sd dv [aG,am,al,aj,ak,ai] al).g4 af ag aa aE
 refine RG.RY (T:=35) (ty:=35) aE dw AA AA (fun b _ h=>QZ AI h) (by have q1:=p0.np; have q2:(Ai s).parts.length=s.parts.length:=rfl; omega) fun aH bZ e7 aq ar bG=>?_
 have dS:=CI ar cH ab.lt
 have dT:=CI ar cI ae.lt
 have dU:=CI ar cJ aa.lt
 have dV:=CI ar cK ac.lt
 have cN:=Fx ar cL E.size
 replace ⟨ae,af,ag,aa,ac,E⟩:=(sa [aG,am,aj,ak,ai] bG ar).g6 ae af ag aa ac E
 replace aq:=aq.rn aG
 refine .r 1<|.ss 2 (vS aH (0+(aZ - 1)) bZ) ac fun e8 bH cO cP=>?_
 replace ⟨ae,af,ag,aa,aq,E⟩:=(so [aH,am,aj,ak,ai] bH).g6 ae af ag aa aq E
 refine .d<|.s<|.g<|.ln cO<|.sc [.slice b7 (((((Ai s)).idx).names).length) b8,.slice b9 (((((Ai s)).idx).AY).length) cd,vS aH (0+(aZ - 1)) bZ,vS aj ce cg] ae fun b0 bI cQ cR=>?_
 replace ⟨af,ag,aa,aq,E⟩:=(so [aH,am,aj,ak,ai] bI).g5 af ag aa aq E
 refine .r 1<|.d ?_
 have bJ:=aq.sl (.inr cN)
 replace ⟨af,ag,aa⟩:=(sd b0 [aH,am,aj,ak,ai] aH).g3 af ag aa
 have dx:=aa.sl (.inr bR)
 replace ⟨af,ag,bJ⟩:=(sd b0 [am,aj,ak,ai] aj).g3 af ag bJ
 exact .r2 func66 results66 (.bx cQ) (.t (.bool true)) ⟨⟨_,(Bk rfl (AG (by exact (congrArg Prod.snd (Pt p0 ‹_› ‹_› ‹_› ‹_›)).symm))),(VS.of (y:=(⟨(⟨(((Ai s)).idx).names,(((Ai s)).idx).AY⟩:Idx),([]++(((((Ai s)).parts).set (at_.toNat) ((CN aA aB).1)).take (at_.toNat+1)++((((Ai s)).parts).set (at_.toNat) ((CN aA aB).1)).drop ((at_.toNat+1)+1))),((Ai s)).mem⟩:Sto)) ⟨_,rfl,⟨_,_,_,_,_,_,_,_,_,_,_,_,rfl,af.w1,ag.w1,bJ.w1,dx.w1⟩⟩ (by exact (congrArg Prod.fst (Pt p0 ‹_› ‹_› ‹_› ‹_›)).symm))⟩,E⟩
end Go.Proofs.YtckdhcbbgmiccaaGreatDoor
namespace Go.Proofs.YtckdhcbbgmiccaaGreatDoor
theorem Ma:Cq []=true:=by decide
theorem Ns {s:Sto}(h:SD s) (hk:Ab s=true){id:Int}{p:List Tag→Bool}(hid:id∈BG p 0 s.idx.names) (lo hi:Int):HO (IV s id) lo hi=Hk (rowsOf s id) lo hi:=by
 have:=C3 hid
 rw [Uk hk this.1 this.2,KX h hk this.1 this.2]
def DS (s:Sto) (f:List Cnd) (lo hi:Int) (i k:Nat):Prop:=((BG (CJ f) 0 s.idx.names).drop i).flatMap (DR s lo hi)=(Bt s f lo hi).drop k
theorem DS.start {s:Sto}{f:List Cnd}{lo hi:Int}(h:SD s) (hk:Ab s=true):DS s f lo hi 0 0:=by
 unfold DS
 rw [Un h hk]
 rfl
theorem DS.skip {s:Sto}{f:List Cnd}{lo hi:Int}{i k:Nat}{id:Int}(h:DS s f lo hi i k) (hs:SD s) (hk:Ab s=true) (hd:(BG (CJ f) 0 s.idx.names).drop i=id::(BG (CJ f) 0 s.idx.names).drop (i+1)) (hl:((HO (IV s id) lo hi).length:Int)=0):DS s f lo hi (i+1) k:=by
 have hm:id∈BG (CJ f) 0 s.idx.names:=List.mem_of_mem_drop (by rw [hd]; simp)
 rw [Ns hs hk hm] at hl
 unfold DS at h ⊢
 rw [hd,List.flatMap_cons] at h
 have e:DR s lo hi id=[]:=by unfold DR; rw [if_neg AB]
 rw [e,List.nil_append] at h
 exact h
theorem DS.hit {s:Sto}{f:List Cnd}{lo hi:Int}{i k:Nat}{id:Int}(h:DS s f lo hi i k) (hs:SD s) (hk:Ab s=true) (hd:(BG (CJ f) 0 s.idx.names).drop i=id::(BG (CJ f) 0 s.idx.names).drop (i+1)) (hl:((HO (IV s id) lo hi).length:Int)≠0){n:List Tag}(hn:s.idx.names[(id - 1).toNat]? = some n) :
 (Bt s f lo hi)[k]? = some ⟨Ei n,HO (IV s id) lo hi⟩∧DS s f lo hi (i+1) (k+1):=by
 have hm:id∈BG (CJ f) 0 s.idx.names:=List.mem_of_mem_drop (by rw [hd]; simp)
 rw [Ns hs hk hm] at hl ⊢
 unfold DS at h ⊢
 rw [hd,List.flatMap_cons] at h
 have e:DR s lo hi id=[⟨Ei n,Hk (rowsOf s id) lo hi⟩]:=by
  unfold DR
  rw [if_pos AB,List.getD_eq_getElem?_getD,hn,MV (hs.nm.ok n (AV hn))]
  rfl
 rw [e,List.cons_append,List.nil_append] at h
 constructor
 ·have:=congrArg (fun l=>l[0]?) h
  simp only [List.getElem?_cons_zero,List.getElem?_drop,Nat.add_zero] at this
  exact this.symm
 ·have:=congrArg List.tail h
  rw [List.tail_cons,List.tail_drop] at this
  exact this
theorem DS.fin {s:Sto}{f:List Cnd}{lo hi:Int}{i k:Nat}(h:DS s f lo hi i k) (hi2:(BG (CJ f) 0 s.idx.names).length≤i):(Bt s f lo hi).length≤k:=by
 unfold DS at h
 rw [Ac hi2] at h
 have:=congrArg List.length h
 simp only [List.flatMap_nil,List.length_nil,List.length_drop] at this
 omega
theorem DS.no1 {s:Sto}{f:List Cnd}{lo hi:Int}{i k:Nat}{id:Int}(h:DS s f lo hi i k) (hs:SD s) (hk:Ab s=true) (hd:(BG (CJ f) 0 s.idx.names).drop i=id::(BG (CJ f) 0 s.idx.names).drop (i+1)) (hl:((HO (IV s id) lo hi).length:Int)≠0) (hb:(k:Int)≥((Bt s f lo hi).length:Int)):False:=by
 have hm:id∈BG (CJ f) 0 s.idx.names:=List.mem_of_mem_drop (by rw [hd]; simp)
 have h2:=C3 hm
 obtain ⟨n,hn⟩:∃ n,s.idx.names[(id - 1).toNat]? = some n:=⟨_,AU AB⟩
 have h3:=(List.getElem?_eq_some_iff.1 (h.hit hs hk hd hl hn).1).1
 omega
theorem DS.no2 {s:Sto}{f:List Cnd}{lo hi:Int}{i k:Nat}{id:Int}(h:DS s f lo hi i k) (hs:SD s) (hk:Ab s=true) (hd:(BG (CJ f) 0 s.idx.names).drop i=id::(BG (CJ f) 0 s.idx.names).drop (i+1)) (hl:((HO (IV s id) lo hi).length:Int)≠0){n:List Tag}(hn:s.idx.names[(id - 1).toNat]? = some n){b:Hit}(hb:(Bt s f lo hi)[k]? = some b)
 (hf:(b.name==Ei n)=false∨(b.name != Ei n)=true∨(b.rows==HO (IV s id) lo hi)=false):False:=by
 have h3:=(h.hit hs hk hd hl hn).1
 rw [hb] at h3
 simp only [Option.some.injEq] at h3
 subst h3
 rcases hf with hf | hf | hf <;> simp at hf
end Go.Proofs.YtckdhcbbgmiccaaGreatDoor
namespace Go.Proofs.YtckdhcbbgmiccaaGreatDoor
theorem TJ {s:Sto}(h:SD s) (h1:(Bs s).2=true):(Bs s).1=DA s∧Ab s=true∧s.mem≠[]∧s.parts.length< 6:=by
 cases hk:Ab s with
 | false=>rw [KV hk] at h1; cases h1
 | true =>
   by_cases hc:(s.mem.length:Int)=0∨(s.parts.length:Int)=6
   ·rw [Hh h hk hc] at h1; cases h1
   ·have h6:=Og hk
    rw [JW h hk AB AB]
    refine ⟨?_,rfl,fun e=>?_,by omega⟩
    ·show (⟨(Ai s).idx,(Ai s).parts++[Ak s.mem],[]⟩:Sto)=DA s
     rw [h.copy]
     rfl
    ·rw [e] at hc; simp at hc
theorem Mb {s x:Sto}{f:List Cnd}(hi:x.idx=s.idx) (hk:Ab s=Ab x) (hr:Ab s=true→∀ id:Int,1≤id→id≤s.idx.names.length→rowsOf x id=rowsOf s id) (lo hi2:Int):Bt x f lo hi2=Bt s f lo hi2:=by
 unfold Bt
 rw [← hk]
 cases hs:Ab s&&Cq f with
 | false=>rfl
 | true =>
   simp only [AW] at hs
   rw [if_pos rfl,if_pos rfl]
   unfold Fi
   rw [hi]
   have key:∀ (l:List Int),(∀ i∈l,1≤i∧i≤s.idx.names.length)→l.flatMap (DR x lo hi2)=l.flatMap (DR s lo hi2):=by
    intro l
    induction l with
    | nil=>intro _; rfl
    | cons i is ih =>
      intro h
      rw [List.flatMap_cons,List.flatMap_cons,ih (fun j hj=>h j (by simp [hj]))]
      have h1:=h i AD
      unfold DR
      rw [hr hs.1 i h1.1 h1.2,hi]
   exact key _ (fun i hi=>C3 hi)
end Go.Proofs.YtckdhcbbgmiccaaGreatDoor
namespace Go.Proofs.YtckdhcbbgmiccaaGreatDoor
theorem Nt (a b:Prt){id:Int}(h1:1≤id) (h2:id≤6):partOf (BJ a b) id=Bl (partOf a id) (partOf b id):=by
 unfold BJ
 rw [Pg _ h1,List.getD_eq_getElem?_getD]
 unfold Bc
 rw [List.getElem?_map,List.getElem?_range AB]
 simp only [Option.map_some,Option.getD_some]
 rw [show (((id - 1).toNat:Nat):Int)+1=id by omega]
def CV (s:Sto) (k:Nat):Sto:=⟨s.idx,Gy s.parts k,s.mem⟩
theorem Jc {s:Sto}{i:Int}(h:SD s) (h1:(BT s i).2=true):Ab s=true∧0≤i∧i+2≤s.parts.length∧(BT s i).1=CV s i.toNat:=by
 cases hk:Ab s with
 | false=>rw [KZ hk] at h1; cases h1
 | true =>
   cases hr:inR i 0 ((s.parts.length:Int) - 2) with
   | false=>rw [MZ h hk hr] at h1; cases h1
   | true =>
     have h2:=Bd hr
     refine ⟨rfl,h2.1,by omega,?_⟩
     rw [G3 hk,h.copy]
     unfold BL
     rw [if_pos hr]
     rfl
theorem FT {s:Sto}{k:Nat}(hk:k+2≤s.parts.length):∃ x y,s.parts[k]? = some x∧s.parts[k+1]? = some y∧(CV s k).parts=s.parts.take k++[BJ x y]++s.parts.drop (k+2):=by
 refine ⟨_,_,AU AB,AU AB,?_⟩
 exact H4 (AU AB) (AU AB)
theorem E4 {s:Sto}(h:StoK s){k:Nat}(hk:k+2≤s.parts.length){id:Int}(h1:1≤id) (h2:id≤6):(CV s k).parts.foldl (CG id) []=s.parts.foldl (CG id) []∧rowsOf (CV s k) id=rowsOf s id:=by
 obtain ⟨x,y,hx,hy,e⟩:=FT hk
 have key:(CV s k).parts.foldl (CG id) []=s.parts.foldl (CG id) []:=by
  have hs:s.parts=s.parts.take k++[x,y]++s.parts.drop (k+2):=by
   have e1:=List.take_append_drop k s.parts
   rw [drop_at hx,drop_at hy] at e1
   rw [List.append_assoc]
   exact e1.symm
  rw [e]
  conv=>rhs; rw [hs]
  simp only [List.foldl_append,List.foldl_cons,List.foldl_nil]
  congr 1
  have px:=h.sd.part x (AV hx)
  have py:=h.sd.part y (AV hy)
  have ho:Blk ((s.parts.take k).foldl (CG id) []):=Gi (fun p hp=>h.sd.part p (List.mem_of_mem_take hp)) Blk.nil
  unfold CG
  rw [Nt x y h1 h2]
  exact (Oe ho (px.of id) (py.of id)).symm
 refine ⟨key,?_⟩
 unfold rowsOf
 rw [key]
 rfl
theorem Q3 {p:Prt}{n:Int}(h:Bv p n=true):∃ id:Int,1≤id∧id≤6∧id≤n∧0< (partOf p id).length:=by
 have hle:=Ja h
 unfold Bv at h
 simp only [AW] at h
 obtain ⟨h1,h2⟩:=h
 unfold Ay at h1
 simp only [AW,decide_eq_true_eq] at h1
 obtain ⟨h3,h4⟩:=h1
 unfold partOf
 cases hi:p.ids with
 | nil=>rw [hi] at h2; simp at h2
 | cons i is =>
   cases hb:p.blocks with
   | nil=>rw [hi,hb] at h3; simp at h3
   | cons b bs =>
     rw [hi,hb] at h4
     unfold CB at h4
     simp only [AW,decide_eq_true_eq] at h4
     have h5:=Bd h4.1.1.1.1
     refine ⟨i,h5.1,h5.2,hle i (by rw [hi]; simp),?_⟩
     unfold Bj
     rw [if_pos AD]
     exact h4.1.1.2
theorem Pu {s:Sto}(h:SD s) (hk:Ab s=true){x y:Prt}(hx:x∈s.parts) (hy:y∈s.parts){id:Int}(h1:1≤id) (h2:id≤6):Blk (Bl (partOf x id) (partOf y id))∧(Bl (partOf x id) (partOf y id)).length≤24:=by
 have e:=MY h hk hx hy
 unfold CN at e
 split at e
 ·rename_i hc
  obtain ⟨ox,oy,hm⟩:=hc
  unfold okM at hm
  rw [List.all_eq_true] at hm
  have:=hm (id - 1).toNat (by rw [List.mem_range]; omega)
  rw [show (((id - 1).toNat:Nat):Int)+1=id by omega] at this
  have e1:BN x id=partOf x id:=by unfold BN; rw [if_pos ox]
  have e2:BN y id=partOf y id:=by unfold BN; rw [if_pos oy]
  rw [e1,e2] at this
  refine ⟨(Kz (Gj ox id)).merge (Kz (Gj oy id)),?_⟩
  unfold CR at this
  split at this
  ·rename_i hc; have:=hc.2.2; omega
  ·cases this
 ·exact absurd (congrArg Prod.snd e) AD
theorem Gk {s:Sto}(h:SD s) (hk:Ab s=true){k:Nat}(hl:k+2≤s.parts.length):Ab (CV s k)=true:=by
 have hK:=StoK.of h hk
 obtain ⟨x,y,hx,hy,e⟩:=FT hl
 have mx:=AV hx
 have my:=AV hy
 have hn:=h.nm.len
 have hk2:=hk
 unfold Ab at hk2 ⊢
 simp only [AW,decide_eq_true_eq,List.all_eq_true,List.mem_range,FF] at hk2 ⊢
 obtain ⟨⟨⟨⟨a1,a2⟩,a3⟩,a4⟩,a5⟩:=hk2
 refine ⟨⟨⟨⟨?_,a2⟩,fun p hp=>?_⟩,a4⟩,fun i hi=>?_⟩
 ·rw [e]
  simp only [List.length_append,List.length_take,List.length_drop,List.length_cons,List.length_nil]
  omega
 ·rw [e] at hp
  simp only [List.mem_append,List.mem_cons,List.not_mem_nil,or_false] at hp
  rcases hp with (hp | rfl) | hp
  ·exact a3 p (List.mem_of_mem_take hp)
  ·show Bv (EM (Bc x y 6)) s.idx.names.length=true
   have hblk:∀ (i:Nat) b,(Bc x y 6)[i]? = some b→i< 6∧b=Bl (partOf x ((i:Int)+1)) (partOf y ((i:Int)+1)):=fun i b hb=>by
    unfold Bc at hb
    rw [List.getElem?_map] at hb
    by_cases hi:i< 6
    ·rw [List.getElem?_range hi] at hb
     simp only [Option.map_some,Option.some.injEq] at hb
     exact ⟨hi,hb.symm⟩
    ·rw [List.getElem?_eq_none (by simp; omega)] at hb
     cases hb
   refine Pj (fun b hb=>?_) (by rw [EG]; omega) ?_ (fun i b hb hp=>?_)
   ·obtain ⟨i,hi⟩:=List.mem_iff_getElem?.1 hb
    obtain ⟨h6,rfl⟩:=hblk i b hi
    exact Pu h hk mx my AB AB
   ·obtain ⟨id,g1,g2,_,g4⟩:=Q3 (a3 x mx)
    refine ⟨Bl (partOf x id) (partOf y id),?_,?_⟩
    ·unfold Bc
     refine List.mem_map.2 ⟨(id - 1).toNat,by simp; omega,?_⟩
     rw [show (((id - 1).toNat:Nat):Int)+1=id by omega]
    ·have bx:=(h.part x mx).of id
     have by':=(h.part y my).of id
     have:=Od bx (bx.merge by') (fun t ht=>by
      rw [Cw t _ bx by']
      cases look t (partOf y id) with
      | none=>exact ht
      | some q=>rfl)
     omega
   ·obtain ⟨h6,rfl⟩:=hblk i b hb
    by_cases hin:i< s.idx.names.length
    ·exact hin
    ·rw [Ka (p:=x) (fun j hj=>by have:=Ja (a3 x mx) j hj; omega),Ka (p:=y) (fun j hj=>by have:=Ja (a3 y my) j hj; omega)] at hp
     exact absurd hp AE
  ·exact a3 p (List.mem_of_mem_drop hp)
 ·rw [(E4 hK hl AB (by have:i< s.idx.names.length:=hi; omega)).2]
  exact a5 i hi
theorem TK {s:Sto}(h:SD s){k:Nat}(hl:k+2≤s.parts.length):SD (CV s k):=by
 obtain ⟨x,y,hx,hy,e⟩:=FT hl
 refine ⟨h.idx,h.nm,h.nd,?_,fun p hp=>?_,h.nm2,h.mem⟩
 ·have:=h.np
  rw [e]
  simp only [List.length_append,List.length_take,List.length_drop,List.length_cons,List.length_nil]
  omega
 ·rw [e] at hp
  simp only [List.mem_append,List.mem_cons,List.not_mem_nil,or_false] at hp
  rcases hp with (hp | rfl) | hp
  ·exact h.part p (List.mem_of_mem_take hp)
  ·exact (h.part x (AV hx)).merge (h.part y (AV hy))
  ·exact h.part p (List.mem_of_mem_drop hp)
section
variable {s:Sto} {i:Int}
theorem Uv (h:SD s) (h1:(BT s i).2=true):SD (BT s i).1:=by
 obtain ⟨_,h2,h3,e⟩:=Jc h h1
 rw [e]
 exact TK h AB
theorem Q4 (h:SD s) (h1:(BT s i).2=true):Bt (BT s i).1 [] 0 99=Bt s [] 0 99∧Ab (BT s i).1=true:=by
 obtain ⟨hk,h2,h3,e⟩:=Jc h h1
 have h5:=Gk h hk (k:=i.toNat) AB
 rw [e]
 exact ⟨Mb (x:=CV s i.toNat) (s:=s) rfl (hk.trans h5.symm) (fun _ id a b=>(E4 (StoK.of h hk) AB a (by have:=h.nm.len; omega)).2) _ _,h5⟩
theorem TL (h:SD s) (h1:(BT s i).2=true):(BT s i).1.parts.length+1=s.parts.length∧0≤i∧i+2≤s.parts.length∧i+1≤(BT s i).1.parts.length:=by
 obtain ⟨hk,h2,h3,e⟩:=Jc h h1
 obtain ⟨x,y,hx,hy,e2⟩:=FT (s:=s) (k:=i.toNat) AB
 rw [e,e2]
 simp only [List.length_append,List.length_take,List.length_drop,List.length_cons,List.length_nil]
 omega
end
end Go.Proofs.YtckdhcbbgmiccaaGreatDoor
namespace Go.Proofs.YtckdhcbbgmiccaaGreatDoor
theorem Uw (v:Int):∀ (l:List Int) (i:Nat),l.contains v=decide (Em v i l≥0):=by
 intro l
 induction l with
 | nil=>intro i; simp [Em]
 | cons x xs ih =>
   intro i
   have:=ih (i+1)
   have e:Em v i (x::xs)=if x==v then (i:Int) else Em v (i+1) xs:=rfl
   rw [e,List.contains_cons,this]
   by_cases h:x=v
   ·subst h; simp
   ·have h1:(x==v)=false:=beq_eq_false_iff_ne.2 h
    have h2:(v==x)=false:=beq_eq_false_iff_ne.2 (fun e=>h e.symm)
    rw [h1,h2]
    simp
def Dy (nx:Int):Option Int→List Fil→Bool
 | _,[]=>true
 | o,f::fs=>inR f.num 1 (nx - 1)&&(match o with | some q=>decide (q< f.num) | none=>true)&&Ay f.part&&Dy nx (some f.num) fs
def EJ (d:Dsk):Bool:=d.list.all (fun n=>decide (0≤Aw d n))&&decide d.list.Nodup
def BE (d:Dsk):Bool:=inR d.next 1 999&&decide (d.files.length≤20)&&decide (d.list.length≤6)&&Dy d.next none d.files&&EJ d&&(nmB d.names&&Ab (At d))
structure DD (d:Dsk):Prop where
 g:NmG d.names
 nl:d.list.length≤7
 nf:d.files.length≤20
 file:∀ f∈d.files,PrtI f.part
 next:0≤d.next∧d.next≤999
theorem DD.part {d:Dsk}(h:DD d) (n:Int):PrtI (BA d n):=by
 unfold BA
 rw [List.getD_eq_getElem?_getD]
 cases hx:d.files[(Aw d n).toNat]? with
 | none=>exact PrtI.nil
 | some f=>exact h.file f (AV hx)
theorem DD.sg {d:Dsk}(h:DD d):SG (At d):=by
 refine ⟨⟨h.g,fun _=>rfl⟩,by simp [At]; exact h.nl,fun p hp=>?_,by simp [At],by simp [At]⟩
 simp only [At,List.mem_map] at hp
 obtain ⟨n,_,rfl⟩:=hp
 exact h.part n
def LL (fs:List Fil) (k:Nat):Option Int:=prev (fs.map Fil.num) k
theorem Pv {nx:Int}{fs:List Fil}{k:Nat}{f:Fil}{b:Bool}(h:Dy nx (LL fs k) (fs.drop k)=b) (hd:fs.drop k=f::fs.drop (k+1)) (hf:fs[k]? = some f) (h1:inR f.num 1 (nx - 1)=true) (h2:k=0∨∃ q,fs[k - 1]? = some q∧¬ q.num≥f.num) (h3:Ay f.part=true):Dy nx (LL fs (k+1)) (fs.drop (k+1))=b:=by
 rw [hd] at h
 unfold Dy at h
 have e:LL fs (k+1)=some f.num:=by unfold LL; rw [Sj,List.getElem?_map,hf]; rfl
 have e2:(match LL fs k with | some q=>decide (q< f.num) | none=>true)=true:=by
  rcases h2 with rfl | ⟨q,hq,hlt⟩
  ·rfl
  ·by_cases hk:k=0
   ·subst hk; rfl
   ·have:LL fs k=some q.num:=by unfold LL; rw [PM _ _ AB,List.getElem?_map,hq]; rfl
    rw [this]
    simp
    omega
 rw [h1,h3,e2] at h
 rw [e]
 simpa using h
theorem Ok {nx:Int}{fs:List Fil}{k:Nat}{f:Fil}{b:Bool}(h:Dy nx (LL fs k) (fs.drop k)=b) (hd:fs.drop k=f::fs.drop (k+1)) (h1:inR f.num 1 (nx - 1)=false∨(0< k∧∃ q,fs[k - 1]? = some q∧q.num≥f.num)∨Ay f.part=false):b=false:=by
 rw [hd] at h
 unfold Dy at h
 rw [← h]
 rcases h1 with h1 | ⟨hk,q,hq,hge⟩ | h1
 ·rw [h1]; simp
 ·have:LL fs k=some q.num:=by unfold LL; rw [PM _ _ AB,List.getElem?_map,hq]; rfl
  have e2:decide (q.num< f.num)=false:=decide_eq_false AB
  rw [this]
  simp only [e2]
  simp
 ·rw [h1]; simp
theorem W6 {nx:Int}{fs:List Fil}{k:Nat}{b:Bool}(h:Dy nx (LL fs k) (fs.drop k)=b) (hk:fs.length≤k):b=true:=by
 rw [Ac hk] at h
 exact h.symm
def Ux (d:Dsk) (k:Nat):Prop:=∀ j n,j< k→d.list[j]? = some n→0≤Aw d n∧n∉d.list.take j
theorem Yh (d:Dsk):Ux d 0:=fun j _ h=>absurd h AB
def fresh (d:Dsk) (n:Int) (k:Nat):Prop:=n∉d.list.take k
theorem Uy {d:Dsk}{n:Int}{k:Nat}(h:((d.list.take k).drop 0).contains n=false):fresh d n k:=by
 unfold fresh
 rw [List.drop_zero] at h
 intro hm
 rw [List.contains_iff_mem.2 hm] at h
 cases h
theorem TM {d:Dsk}{k j:Nat}{n:Int}(h:Ux d k) (hn:d.list[k]? = some n) (h1:¬ Aw d n< 0) (h2:fresh d n j) (hj:k≤j):Ux d (k+1):=fun i m hi hm=>by
 by_cases e:i=k
 ·subst e
  rw [hn] at hm
  cases hm
  refine ⟨by omega,fun hmem=>h2 ?_⟩
  obtain ⟨a,ha⟩:=List.mem_iff_getElem?.1 hmem
  rw [List.getElem?_take] at ha
  split at ha
  ·exact List.mem_iff_getElem?.2 ⟨a,by rw [List.getElem?_take,if_pos AB]; exact ha⟩
  ·cases ha
 ·exact h i m AB hm
theorem Pw {d:Dsk}{k:Nat}(h:Ux d k) (hk:d.list.length≤k):EJ d=true:=by
 unfold EJ
 rw [AW,List.all_eq_true,decide_eq_true_eq]
 refine ⟨fun n hn=>?_,?_⟩
 ·obtain ⟨j,hj⟩:=List.mem_iff_getElem?.1 hn
  have:=(h j n (by have:=(List.getElem?_eq_some_iff.1 hj).1; omega) hj).1
  simpa using this
 ·unfold List.Nodup
  rw [List.pairwise_iff_getElem]
  intro i j hi hj hij e
  refine (h j d.list[j] AB (AU hj)).2 ?_
  rw [← e]
  exact List.mem_iff_getElem?.2 ⟨i,by rw [List.getElem?_take,if_pos hij]; exact AU hi⟩
theorem Yi {d:Dsk}{k:Nat}{n:Int}(hn:d.list[k]? = some n) (h:Aw d n< 0):EJ d=false:=by
 cases hb:EJ d with
 | false=>rfl
 | true =>
   unfold EJ at hb
   rw [AW,List.all_eq_true] at hb
   have:=hb.1 n (AV hn)
   simp at this
   omega
theorem Yj {d:Dsk}{k:Nat}{n:Int}(hn:d.list[k]? = some n) (h:n∈d.list.take k):EJ d=false:=by
 cases hb:EJ d with
 | false=>rfl
 | true =>
   unfold EJ at hb
   rw [AW,decide_eq_true_eq] at hb
   obtain ⟨i,hi⟩:=List.mem_iff_getElem?.1 h
   rw [List.getElem?_take] at hi
   split at hi
   ·rename_i hik
    have hd:=hb.2
    unfold List.Nodup at hd
    rw [List.pairwise_iff_getElem] at hd
    obtain ⟨a1,a2⟩:=List.getElem?_eq_some_iff.1 hi
    obtain ⟨b1,b2⟩:=List.getElem?_eq_some_iff.1 hn
    exact absurd (a2.trans b2.symm) (hd i k a1 b1 hik)
   ·cases hi
theorem E5 {d:Dsk}(h:EJ d=true):∀ n∈d.list,0≤Aw d n:=fun n hn=>by
 unfold EJ at h
 rw [AW,List.all_eq_true] at h
 have:=h.1 n hn
 simpa using this
theorem Yk {d:Dsk}{k:Nat}{n:Int}(hn:d.list[k]? = some n) (h:((d.list.take k).drop 0).contains n=true):EJ d=false:=by
 rw [List.drop_zero] at h
 exact Yj hn (List.contains_iff_mem.1 h)
section
variable {d:Dsk}
theorem Yl (h:inR d.next 1 999=false∨(d.files.length:Int) > 20∨(d.list.length:Int) > 6∨(d.names.length:Int) > 6):BE d=false:=by
 unfold BE
 rcases h with h | h | h | h
 ·rw [h]; simp
 ·rw [decide_eq_false (p:=d.files.length≤20) AB]; simp
 ·rw [decide_eq_false (p:=d.list.length≤6) AB]; simp
 ·rw [← Wq h]; simp
theorem W7 (h:Dy d.next none d.files=false):BE d=false:=by unfold BE; rw [h]; simp
theorem Z0 (h:EJ d=false):BE d=false:=by unfold BE; rw [h]; simp
theorem oV (h1:inR d.next 1 999=true) (h2:¬ (d.files.length:Int) > 20) (h3:¬ (d.list.length:Int) > 6) (h5:Dy d.next none d.files=true) (h6:EJ d=true):BE d=(nmB d.names&&Ab (At d)):=by
 unfold BE
 rw [h1,h5,h6,decide_eq_true AB,decide_eq_true AB]
 simp
theorem oW {y:Sto}(h1:inR d.next 1 999=true) (h2:¬ (d.files.length:Int) > 20) (h3:¬ (d.list.length:Int) > 6) (h5:Dy d.next none d.files=true) (h6:EJ d=true) (hd:NsD d.names) (hy:y.idx.names=d.names∧(NmI d.names→NsD d.names→y=At d)):(nmB y.idx.names&&Ab y)=BE d:=by
 rw [oV h1 h2 h3 h5 h6,hy.1]
 cases hb:nmB d.names with
 | false=>rfl
 | true=>rw [hy.2 (EU.1 hb) hd]
theorem Gl (h:BE d=true):NmI d.names∧Ab (At d)=true∧EJ d=true:=by
 unfold BE at h
 simp only [AW] at h
 exact ⟨EU.1 h.2.1,h.2.2,h.1.2⟩
theorem DD.sd (h:DD d) (hk:BE d=true):SD (At d):=by
 obtain ⟨h1,h2,_⟩:=Gl hk
 have h3:=Og h2
 exact h.sg.sd (EU.2 h1) h3
def Cy (d:Dsk):Sto:=if BE d then At d else ⟨⟨[],[]⟩,[],[]⟩
theorem W8 (h:BE d=false):Cy d=⟨⟨[],[]⟩,[],[]⟩:=by unfold Cy; rw [if_neg (by simp [h])]
theorem Lk (h:BE d=true):Cy d=At d:=by unfold Cy; rw [if_pos h]
end
theorem TN {d:Dsk}{l:List Int}{i:Nat}{n:Int}{k Y:List Prt}{f:Fil}(h:k++(l.drop i).map (BA d)=Y) (hd:l.drop i=n::l.drop (i+1)) (hf:d.files[(Aw d n).toNat]? = some f):(k++[f.part])++(l.drop (i+1)).map (BA d)=Y:=by
 rw [hd,List.map_cons] at h
 rw [← h]
 have:BA d n=f.part:=by unfold BA; rw [List.getD_eq_getElem?_getD,hf]; rfl
 rw [this]
 simp
theorem Uz {d:Dsk}{l:List Int}{i:Nat}{k Y:List Prt}(h:k++(l.drop i).map (BA d)=Y) (hi:l.length≤i):k=Y:=by
 rw [Ac hi] at h
 simpa using h
theorem H9 {d:Dsk}{n:Int}(h:0≤Aw d n):(Aw d n).toNat< d.files.length∧Aw d n=((Aw d n).toNat:Int):=by
 have:=(LZ n d.files 0).1
 unfold Aw at h ⊢
 omega
def EY (d:Dsk) (y:Sto):Prop:=y.idx.names=d.names∧y.parts=(At d).parts∧y.mem=[]∧(NmI d.names→NsD d.names→y=At d)
theorem EY.mk {d:Dsk}{a:List (List Tag)}{b:List Pst}{c:List Prt}{e:List Smp}(h1:a=d.names) (h2:c=d.list.map (BA d)) (h3:e=[]) (h4:NmI d.names→NsD d.names→(⟨a,b⟩:Idx)=idxOf d.names):EY d ⟨⟨a,b⟩,c,e⟩:=by
 subst h2 h3
 refine ⟨h1,rfl,rfl,fun x y=>?_⟩
 unfold At
 rw [h4 x y]
theorem EY.sg {d:Dsk}{y:Sto}(q:EY d y) (h:DD d):SG y:=by
 obtain ⟨q1,q2,q3,q4⟩:=q
 refine ⟨⟨by rw [q1]; exact h.g,fun hn=>?_⟩,by rw [q2]; exact h.sg.np,fun p hp=>h.sg.part p (by rw [← q2]; exact hp),by rw [q3]; simp,by rw [q3]; simp⟩
 rw [q1] at hn ⊢
 have:=q4 hn h.g.nd
 rw [this]
 rfl
theorem EY.eq {d:Dsk}{y:Sto}(q:EY d y) (h:DD d) (hk:BE d=true):y=Cy d:=by rw [Lk hk]; exact q.2.2.2 (Gl hk).1 h.g.nd
theorem EY.dk {d:Dsk}{y:Sto}(hy:EY d y) (h:DD d) (h1:inR d.next 1 999=true) (h2:¬ (d.files.length:Int) > 20) (h3:¬ (d.list.length:Int) > 6) (h5:Dy d.next none d.files=true) (h6:EJ d=true):(nmB y.idx.names&&Ab y)=BE d:=oW h1 h2 h3 h5 h6 h.g.nd ⟨hy.1,hy.2.2.2⟩
end Go.Proofs.YtckdhcbbgmiccaaGreatDoor
namespace Go.Proofs.YtckdhcbbgmiccaaGreatDoor
set_option maxRecDepth 100000
set_option maxHeartbeats 4000000
variable {w:World} {F:Nat→Prop} {a1 a2 a3:Option Addr} {n1 c1 n2 c2 n3 c3:Nat}
theorem Ir (f:Fil) (num:Int) (h1:RepS w F a1 n1 c1 f.part.ids) (h2:RepS w F a2 n2 c2 f.part.blocks){bq_num:Nat}(hb_num:Box w bq_num 3 [.int .i64 num])  : Calls Tryz.prog 182 [.agg #[.int .i64 f.num,.slice a1 n1 c1,.slice a2 n2 c2],.pointer (some ⟨bq_num,0,none⟩)].toArray w (Al fun rv w'=>rv=.bool ((f.num==num))∧Ext w w'):=by
 cases h1.len
 cases h2.len
 refine goT func182 ?_
 have Z:=(((St.i0 F w).p h1).p h2).pb' hb_num
 exact .s<|.g<|RG.Np Z fun ab w Z=>.r 1<|.d<|.s<|.g<|.r 1<|RG.Lb 0 Z<|RG.Lh 0 0 Z<|.r 2<|.d<|T.rt func182 results182 (.bool (f.num==num)) ⟨(AG AF),Z.xt⟩
theorem Jd (s:List Fil) (num:Int) (h1:RepS w F a1 n1 c1 s){bq_num:Nat}(hb_num:Box w bq_num 3 [.int .i64 num])  : Calls Tryz.prog 181 [.slice a1 n1 c1,.func (.func 182) #[] #[.pointer (some ⟨bq_num,0,none⟩)]].toArray w (Al fun rv w'=>rv=.int .i64 (DY num 0 s)∧Ext w w'):=by
 refine goT func181 ?_
 obtain ⟨rfl,ax,h1⟩:=h1.tp
 refine .s<|.g<|.r 1<|.d<|.s<|.s<|.g<|.r 3<|.d<|.b 0<|T.loop (X:=Nat) 0 (fun k=>[(0,.slice a1 s.length c1),(1,.func (.func 182) #[] #[.pointer (some ⟨bq_num,0,none⟩)]),(7,vI (s.length:Int)),(8,vI (k:Int))]) (fun k ab=>Chg (ins []) w ab∧(k≤s.length)∧(DY num k (s.drop k)=DY num 0 s)) (fun k=>s.length - k) AA ⟨AA,AA,AA,AA,trivial⟩ ⟨Chg.refl _ _,AD,AD⟩ ?_
 rintro k aE ab ⟨E,ay,az⟩ ac
 have af:Mv [] [] w ab:=Mv.inl E all_nil all_nil
 replace ⟨h1,hb_num⟩:=(sp af E).g2 h1 hb_num
 have aa:Chg nil w ab:=Chg.NN (Chg.refl nil w) E all_nil
 refine .s<|.g<|.bp ((k:Int)< (s.length:Int)) (fun ak=>?_) (fun ak=>.d<|.s<|.cf<|.x 0 rfl<|.s<|.g<|.r 1<|.d<|.rt func181 results181 (vI (-1)) ⟨(congrArg (Value.int .i64) (by grind [DY,Ac])),aa⟩)
 refine .d<|.s<|.ct<|.sk<|.s<|.b 1<|.s<|.g<|.r 2<|.d<|.s<|.g<|.r 3 ?_
 have al:k< s.length:=AB
 refine .ix k 3 h1 al ?_
 obtain ⟨ah,ae⟩:∃ y,s[k]? = some y:=⟨_,AU AB⟩
 have aA:=drop_at ae
 obtain ⟨_,⟨aF,aG,aH,aI,aJ,aK,rfl,ai,aj⟩,am⟩:=h1.elem k ah ae
 have ao:=ai.len
 subst ao
 have aq:=aj.len
 subst aq
 refine .lg 0 am<|.cl (Ir ah num ai.ta aj.ta hb_num (w:=ab) (F:=all)) ?_
 rintro aL aM ⟨rfl,ag⟩
 replace ⟨hb_num,aa,E⟩:=(se [] ag).g3 hb_num aa E
 cases aD:(ah.num==num)
 ·exact .d<|.cf<|.sk<|.ib 1<|.g<|.it ((k:Int)+1)<|.r 1<|.d<|ac (k+1) _ _ ⟨AA,AA,AA,AA,trivial⟩ ⟨E,AB,(by grind [DY])⟩ AB
 exact .d<|.ct<|.s<|.g<|.r 2<|.d<|.rt func181 results181 (vI (k:Int)) ⟨(congrArg (Value.int .i64) (by grind [DY,Ac])),aa⟩
theorem C4 (d:Dsk) (num:Int) (h1:RepS w F a1 n1 c1 d.files) (h2:RepS w F a2 n2 c2 d.list) (h3:RepS w F a3 n3 c3 d.names)  : Calls Tryz.prog 125 [.agg #[.slice a1 n1 c1,.slice a2 n2 c2,.slice a3 n3 c3,.int .i64 d.next],.int .i64 num].toArray w (Al fun rv w'=>rv=.int .i64 (Aw d num)∧Ext w w'):=by
 cases h1.len
 cases h2.len
 cases h3.len
 refine goT func125 ?_
 have Z:=(((St.i0 F w).p h1).p h2).p h3
 exact .s<|.g<|RG.Np Z fun ac w Z=>RG.Np Z fun ae w Z=>.r 1<|.d<|.s<|.g<|.r 1<|RG.Lb 1 Z<|.r 1<|RG.C0 (Jd d.files num (Z.a 2) (Z.bc 0)) Z fun w Z=>.r 1<|.d<|T.rt func125 results125 (vI (DY num 0 d.files)) ⟨(congrArg (Value.int .i64) AF),Z.xt⟩
theorem Cr (s:List Int) (v:Int) (h1:RepS w F a1 n1 c1 s)  : Calls Tryz.prog 179 [.slice a1 n1 c1,.int .i64 v].toArray w (Al fun rv w'=>rv=.bool (s.contains v)∧Ext w w'):=by
 cases h1.len
 refine goT func179 ?_
 have Z:=(St.i0 F w).p h1
 exact .s<|.g<|.r 1<|.d<|.s<|.g<|.r 2<|RG.C0 (EO s v (Z.a 0)) Z fun w Z=>.r 2<|.d<|T.rt func179 results179 (.bool (decide (Em v 0 s≥0))) ⟨(AG (by exact (Uw v s 0).symm)),Z.xt⟩
theorem Er (d:Dsk) (h1:RepS w F a1 n1 c1 d.files) (h2:RepS w F a2 n2 c2 d.list) (h3:RepS w F a3 n3 c3 d.names) (p0:DD d) (p1:∀ n∈d.list,0≤Aw d n):Calls Tryz.prog 175 [.agg #[.slice a1 n1 c1,.slice a2 n2 c2,.slice a3 n3 c3,.int .i64 d.next]].toArray w (Al fun rv w'=>(∃ (y:Sto),VS (ge w.heap.size) w' (y:Sto) rv∧(EY d y))∧Ext w w'):=by
 cases h1.len
 cases h2.len
 cases h3.len
 refine goT func175 ?_
 have Z:=(((St.i0 F w).p h1).p h2).p h3
 have aJ:=h2.max
 refine .s<|.g<|RG.Np Z fun al w Z=>RG.Np Z fun am w Z=>.d<|.s<|.g<|.r 1<|RG.Lb 1 Z<|RG.cl (HE d.names (Z.a 0) p0.g.len p0.g.l5 p0.g.bl) ?_
 rintro aU w ⟨⟨ag,ay,aL⟩,ao⟩
 refine RG.vS Z ay ao ?_
 intro az aA aB aC Z
 refine RG.N0 Prt 0 Z fun aD w Z=>RG.N0 Smp 0 Z fun aE w Z=>.r 1<|RG.Np Z fun ai w Z=>RG.Ss 0 Z fun w Z=>.d<|.s<|.s<|.g<|.r 1<|RG.Lb 4 Z<|.r 2<|.d<|.b 0<|T.Lp ((0:Nat),(ag.names:List (List Tag)),az,aA,(ag.AY:List Pst),aB,aC,([]:List Prt),aD,(0:Nat),([]:List Smp),aE,(0:Nat)) (fun (k,aa,a_s_0,c_s_0,ab,a_s_1,c_s_1,E,r_s_2,c_s_2,ac,r_s_3,c_s_3)=>([(1,vP al),(2,vP am),(3,vP ai),(13,.slice a2 d.list.length c2),(14,vI (d.list.length:Int)),(15,vI (k:Int))],[(0,.box ai 38 [.slice a_s_0 aa.length c_s_0,.slice a_s_1 ab.length c_s_1,vS r_s_2 E.length c_s_2,vS r_s_3 ac.length c_s_3]),(1,.own 0 r_s_3 128 c_s_3 ac),(2,.own 0 r_s_2 124 c_s_2 E)],[⟨0,none,.rep a_s_0 c_s_0 aa⟩,⟨0,none,.rep a_s_1 c_s_1 ab⟩],d.list.length - k,(k≤d.list.length)∧(E.length≤k)∧(E++(d.list.drop k).map (BA d)=d.list.map (BA d))∧(ac=[])∧(aa=d.names)∧((NmI d.names→NsD d.names→(⟨aa,ab⟩:Idx)=idxOf d.names)))) [0,1] Z ⟨AD,AD,AF,AF,(by have q1:ag.names=d.names∧(NmI d.names→NsD d.names→ag=idxOf d.names):=‹_›; exact q1.1),(by have q1:ag.names=d.names∧(NmI d.names→NsD d.names→ag=idxOf d.names):=‹_›; exact q1.2)⟩ ?_
 rintro ⟨k,aa,a_s_0,c_s_0,ab,a_s_1,c_s_1,E,r_s_2,c_s_2,ac,r_s_3,c_s_3⟩ aV w Z ⟨aM,aN,aO,aP,aQ,aR⟩ ah
 refine .s<|.g<|.bp ((k:Int)< (d.list.length:Int)) (fun aq=>?_) (fun aq=>?_)
 ·exact .d<|.s<|.ct<|.sk<|.s<|.b 1<|.s<|.g<|gxb (h:=AB) d.list k fun aj ae aS ar=>RG.Ix 5 ae Z<|Z.el 5 ae fun Z=>RG.Lh 0 0 Z<|.r 1<|.d<|T.GS 12 [ai,am,al] Z fun _ w Z=>.r [0]<|GA.Lb 1 0 Z<|.r [2]<|GA.Lb (q:=2) 3 4 Z<|GA.Ln (q:=2) 4 4 Z<|.r [5]<|GA.D0 6 Z (fun w Y=>C4 d aj (Y.a 7) (Y.a 6) (Y.a 5))<|gxm (h:=(by exact (H9 (p1 _ ‹_›)).1)) d.files ((Aw d aj).toNat) fun ak af ax=>GA.Jx (hz:=(by exact (H9 (p1 _ ‹_›)).2)) 7 7 (Aw d aj) af Z<|.r [8]<|Z.el 7 af fun aW aX aY aZ Z=>GA.Lg 9 0 1 Z<|.go 10<|GE.CS (fun w Z=>Av ak.part (Z.a 1) (Z.a 2) (p0.file _ ‹_›).sz) Z fun ba bd bg bh w Z=>.go 11<|GE.Nb 1 Z fun bi w Z=>GA.Do Z fun w Z=>RG.Ap (hs:=by exact (by have:=p0.nl; omega)) 2 0 E ak.part [0,1] Z fun aG aH w Z=>.r 1<|RG.Ss 0 Z fun w Z=>.d<|.ib 1<|.g<|RG.int ((k:Int)+1) AA AB<|.r 1<|.d<|ah (k+1,aa,a_s_0,c_s_0,ab,a_s_1,c_s_1,(E++[ak.part]),aG,aH,ac,r_s_3,c_s_3) _ _ AA (Z.to 0 [6,7] 8) ⟨AB,(by simp; omega),(by exact TN ‹_› ‹_› ‹_›),‹_›,‹_›,‹_›⟩ (by (simp only []; omega))
 refine .d<|.s<|.cf<|.x 0 rfl<|.s<|.g<|RG.Ln 0 Z<|RG.Ss 3 Z fun w Z=>.d ?_
 have Z:=(Z.sl 2).sl 1
 exact T.Rb 1 func175 results175 Z ⟨⟨((⟨(⟨aa,ab⟩:Idx),E,ac⟩:Sto):Sto),Z.rS (⟨(⟨aa,ab⟩:Idx),E,ac⟩:Sto) [2,3,1,0] rfl,(by exact EY.mk ‹_› (Uz ‹_› AB) ‹_› ‹_›)⟩,Z.xt⟩
theorem DN (d:Dsk) (h1:RepS w F a1 n1 c1 d.files) (h2:RepS w F a2 n2 c2 d.list) (h3:RepS w F a3 n3 c3 d.names) (p0:DD d):Calls Tryz.prog 123 [.agg #[.slice a1 n1 c1,.slice a2 n2 c2,.slice a3 n3 c3,.int .i64 d.next]].toArray w (Al fun rv w'=>rv=.bool (BE d)∧Ext w w'):=by
 cases h1.len
 cases h2.len
 cases h3.len
 refine goT func123 ?_
 have Z:=(((St.i0 F w).p h1).p h2).p h3
 have aG:=h1.max
 have aH:=h2.max
 refine .s<|.g<|RG.Np Z fun ak w Z=>.r 1<|.d<|.s<|.s<|.g<|.r 1<|RG.Lb 0 Z<|RG.C0 (Bp d.next 1 999 (F:=all)) Z fun w Z=>?_
 cases ah:(inR d.next 1 999)
 ·exact .r 13<|.d<|.ct<|.s<|.g<|.r 1<|.d<|T.rt func123 results123 (.bool false) ⟨(AG (by symm; exact Yl (.inl ‹_›))),Z.xt⟩
 have aK:=Bd ah
 refine .r 3<|RG.Lb 0 Z<|.r 1<|.bp ((d.files.length:Int) > 20) (fun al=>.r 7<|.d<|.ct<|.s<|.g<|.r 1<|.d<|T.rt func123 results123 (.bool false) ⟨(AG (by symm; exact Yl (.inr (.inl ‹_›)))),Z.xt⟩) fun al=>.r 3<|RG.Lb 0 Z<|.r 1<|.bp ((d.list.length:Int) > 6) (fun am=>.r 1<|.d<|.ct<|.s<|.g<|.r 1<|.d<|T.rt func123 results123 (.bool false) ⟨(AG (by symm; exact Yl (.inr (.inr (.inl ‹_›))))),Z.xt⟩) fun am=>.r 1<|.d<|.cf<|.sk<|.s<|.s<|.g<|.r 1<|RG.Lb 0 Z<|.r 2<|.d<|.b 0<|T.Lp (0:Nat) (fun k=>([(1,vP ak),(24,.slice a1 d.files.length c1),(25,vI (d.files.length:Int)),(26,vI (k:Int))],[],[],d.files.length - k,(k≤d.files.length)∧(Dy d.next (LL d.files k) (d.files.drop k)=Dy d.next none d.files))) [] Z ⟨AD,AF⟩ ?_
 rintro k aZ w Z ⟨aL,aM⟩ E
 refine .s<|.g<|.bp ((k:Int)< (d.files.length:Int)) (fun ao=>?_) (fun ao=>?_)
 ·refine .d<|.s<|.ct<|.sk<|.s<|.b 1<|.s<|.g<|.r 1<|gxd d.files k fun aa ab aN=>RG.Ix 2 ab Z<|Z.el 2 ab fun ba bd bg bh Z=>RG.Lg 0 0 Z<|RG.Np Z fun bi w Z=>.r 1<|RG.Ss 0 Z fun w Z=>.d<|.s<|T.Gd 20 Z fun w Z=>.r [0]<|GA.Lb 1 0 Z<|.r [2]<|GA.Lb 3 1 Z<|GA.int (i:=4) (d.next - 1) AA (by have q1:=p0.next; omega)<|GA.C0 5 Z (fun w Z=>Bp aa.num 1 (d.next - 1) (F:=all)) ?_
  cases ai:(inR aa.num 1 (d.next - 1))
  ·exact .r [6,7]<|GA.Sk Z fun w Z=>.r 9<|.d<|.ct<|.s<|.g<|.r 1<|.d<|T.rt func123 results123 (.bool false) ⟨(AG (by symm; exact W7 (Ok ‹_› ‹_› (.inl ‹_›)))),Z.xt⟩
  refine .r [6,7,8]<|GA.G5 (i:=9) ((k:Int) > 0) AA (fun aq=>?_) (fun aq=>?_)
  ·refine .r [10,11]<|GA.Lb 12 1 Z<|.r [13]<|GA.int (i:=14) ((k:Int) - 1) AA (by have q1:=p0.next; omega)<|gx d.files (k - 1) fun aE ac=>GA.Jx 15 5 ((k:Int) - 1) ac Z<|.r [16]<|Z.el 5 ac fun bj bk bm bn Z=>GA.Lh 17 0 0 Z<|.r [18]<|GA.Lb 19 0 Z<|GA.Dn Z fun w Z=>.bp (aE.num≥aa.num) (fun ar=>.r 8<|.d<|.ct<|.s<|.g<|.r 1<|.d<|T.rt func123 results123 (.bool false) ⟨(AG (by symm; exact W7 (Ok ‹_› ‹_› (.inr (.inl ⟨by omega,_,by assumption,by assumption⟩))))),Z.xt⟩) fun ar=>.r 4<|RG.Ln 0 Z<|RG.C0 (DM aa.part (Z.a 4) (Z.a 5)) Z fun w Z=>?_
   cases aR:(Ay aa.part)
   ·exact .r 2<|.d<|.ct<|.s<|.g<|.r 1<|.d<|T.rt func123 results123 (.bool false) ⟨(AG (by symm; exact W7 (Ok ‹_› ‹_› (.inr (.inr ‹_›))))),Z.xt⟩
   exact .r 2<|.d<|.cf<|.sk<|.ib 1<|.g<|RG.int ((k:Int)+1) AA (by have q1:=p0.next; omega)<|.r 1<|.d<|E (k+1) _ _ AA (Z.to 1 [] 6) ⟨AB,(by exact Pv ‹_› ‹_› ‹_› ‹_› (.inr ⟨_,by assumption,by assumption⟩) ‹_›)⟩ (by (simp only []; omega))
  refine .r [10]<|GA.Sk Z fun w Z=>.r 5<|RG.Ln 0 Z<|RG.C0 (DM aa.part (Z.a 1) (Z.a 2)) Z fun w Z=>?_
  cases aS:(Ay aa.part)
  ·exact .r 2<|.d<|.ct<|.s<|.g<|.r 1<|.d<|T.rt func123 results123 (.bool false) ⟨(AG (by symm; exact W7 (Ok ‹_› ‹_› (.inr (.inr ‹_›))))),Z.xt⟩
  exact .r 2<|.d<|.cf<|.sk<|.ib 1<|.g<|RG.int ((k:Int)+1) AA (by have q1:=p0.next; omega)<|.r 1<|.d<|E (k+1) _ _ AA (Z.to 1 [] 3) ⟨AB,(by exact Pv ‹_› ‹_› ‹_› ‹_› (.inl AB) ‹_›)⟩ (by (simp only []; omega))
 refine .d<|.s<|.cf<|.x 0 rfl<|.s<|.s<|.g<|.r 1<|RG.Lb 0 Z<|.r 2<|.d<|.b 2<|T.Lp (0:Nat) (fun k=>([(1,vP ak),(62,.slice a2 d.list.length c2),(63,vI (d.list.length:Int)),(64,vI (k:Int))],[],[],d.list.length - k,(k≤d.list.length)∧(Dy d.next none d.files=true)∧(Ux d k))) [] Z ⟨AD,(by exact W6 ‹_› AB),(by exact Yh _)⟩ ?_
 rintro k bo w Z ⟨aT,aU,aV⟩ af
 refine .s<|.g<|.bp ((k:Int)< (d.list.length:Int)) (fun ax=>?_) (fun ax=>?_)
 ·refine .d<|.s<|.ct<|.sk<|.s<|.b 3<|.s<|.g<|.r 1<|gx d.list k fun ag ae=>RG.Ix 1 ae Z<|Z.el 1 ae fun Z=>RG.Lh 0 0 Z<|.r 2<|.d<|.s<|.g<|RG.Ln 0 Z<|.r 1<|RG.C0 (C4 d ag (Z.a 3) (Z.a 2) (Z.a 1)) Z fun w Z=>.bp (Aw d ag< 0) (fun ay=>.r 8<|.d<|.ct<|.s<|.g<|.r 1<|.d<|T.rt func123 results123 (.bool false) ⟨(AG (by symm; exact Z0 (Yi ‹_› ‹_›))),Z.xt⟩) fun ay=>.r 2<|RG.Lb 0 Z<|.r 1<|RG.Sb (hhi:=bdS AA) 2 0 k d.list Z fun bq br Z=>.r 1<|RG.C0 (Cr ((d.list.take k).drop 0) ag (Z.a 0)) Z fun w Z=>?_
  cases aX:((d.list.take k).drop 0).contains ag
  ·exact .r 1<|.d<|.cf<|.sk<|.ib 3<|.g<|RG.int ((k:Int)+1) AA (by have q1:=p0.next; omega)<|.r 1<|.d<|af (k+1) _ _ AA (Z.to 0 [] 2) ⟨AB,‹_›,(by exact TM ‹_› ‹_› ‹_› (Uy ‹_›) (Nat.le_refl _))⟩ (by (simp only []; omega))
  exact .r 1<|.d<|.ct<|.s<|.g<|.r 1<|.d<|T.rt func123 results123 (.bool false) ⟨(AG (by symm; exact Z0 (Yk ‹_› ‹_›))),Z.xt⟩
 refine .d<|.s<|.cf<|.x 2 rfl<|.s<|.g<|RG.Ln 0 Z<|RG.cl (Er d (Z.a 2) (Z.a 1) (Z.a 0) p0 (E5 (Pw ‹_› AB))) ?_
 rintro bt w ⟨⟨aj,aF,aY⟩,az⟩
 refine RG.vS Z aF az ?_
 intro bu bv bw bz bA bB bC bD Z
 exact RG.C0 (FA aj (Z.a 0) (Z.a 1) (Z.a 2) (Z.a 3) (EY.sg (by assumption:EY d _) p0)) Z fun w Z=>.r 1<|.d<|T.rt func123 results123 (.bool (nmB aj.idx.names&&Ab aj)) ⟨(AG (by exact EY.dk (by assumption:EY d _) p0 ‹_› AB AB ‹_› (Pw ‹_› AB))),Z.xt⟩
theorem LM (d:Dsk) (h1:RepS w F a1 n1 c1 d.files) (h2:RepS w F a2 n2 c2 d.list) (h3:RepS w F a3 n3 c3 d.names) (p0:DD d):Calls Tryz.prog 128 [.agg #[.slice a1 n1 c1,.slice a2 n2 c2,.slice a3 n3 c3,.int .i64 d.next]].toArray w (Al fun rv w'=>VS (fo F w.heap.size) w' (Cy d:Sto) rv∧Ext w w'):=by
 cases h1.len
 cases h2.len
 cases h3.len
 refine goT func128 ?_
 have Z:=(((St.i0 F w).p h1).p h2).p h3
 refine .s<|.g<|RG.Np Z fun ai w Z=>RG.Np Z fun aj w Z=>.d<|.s<|.s<|.g<|RG.Ln 1 Z<|RG.C0 (DN d (Z.a 2) (Z.a 1) (Z.a 0) p0) Z fun w Z=>?_
 cases ag:(BE d)
 ·refine .r 1<|.d<|.ct<|.s<|.g<|.r 1<|RG.Ss 0 Z fun w Z=>.d ?_
  have Z:=(((Z.nl (List Tag)).nl Pst).nl Prt).nl Smp
  exact T.Rb 0 func128 results128 Z ⟨Z.rS (g:=1) (⟨(⟨([]:List (List Tag)),([]:List Pst)⟩:Idx),([]:List Prt),([]:List Smp)⟩:Sto) [3,2,1,0] (by exact (W8 ‹_›).symm),Z.xt⟩
 refine .r 1<|.d<|.cf<|.sk<|.s<|.g<|RG.Ln 1 Z<|RG.cl (Er d (Z.a 2) (Z.a 1) (Z.a 0) p0 (E5 (Gl ‹_›).2.2)) ?_
 rintro ak w ⟨⟨aa,ab,ah⟩,E⟩
 refine RG.vS Z ab E ?_
 intro al am ao aq ar ax ay az Z
 exact RG.Ss 0 Z fun w Z=>.d<|T.Rb 0 func128 results128 Z ⟨Z.rS (g:=1) aa [0,1,2,3] (by exact EY.eq (by assumption:EY d _) p0 ‹_›),Z.xt⟩
end Go.Proofs.YtckdhcbbgmiccaaGreatDoor
namespace Go.Proofs.YtckdhcbbgmiccaaGreatDoor
structure MI (s y:Sto) (i:Nat):Prop where
 sd:SD y
 ok:Ab y=true
 idx:y.idx=s.idx
 mem:y.mem=s.mem
 lo:1≤y.parts.length
 hi:y.parts.length≤1∨y.parts.length+i≤6
 rows:∀ id:Int,1≤id→id≤6→y.parts.foldl (CG id) []=s.parts.foldl (CG id) []
theorem MI.step {s y:Sto}{i:Nat}{a:Int}(h:MI s y i) (h1:(BT y a).2=true):MI s (BT y a).1 (i+1):=by
 obtain ⟨hk,h2,h3,e⟩:=Jc h.sd h1
 have hl:=TL h.sd h1
 refine ⟨Uv h.sd h1,(Q4 h.sd h1).2,by rw [e]; exact h.idx,by rw [e]; exact h.mem,by omega,?_,fun id a1 a2=>?_⟩
 ·have:=h.hi; omega
 ·rw [e,(E4 (StoK.of h.sd hk) AB a1 a2).1]
  exact h.rows id a1 a2
theorem MI.start {s:Sto}{a:Int}(h:SD s) (h1:(BT s a).2=true):MI s s 0∧MI s (BT s a).1 0:=by
 obtain ⟨hk,h2,h3,e⟩:=Jc h h1
 have h0:MI s s 0:=⟨h,hk,rfl,rfl,by omega,.inr (by have:=h.np; omega),fun _ _ _=>rfl⟩
 have h4:=h0.step h1
 exact ⟨h0,h4.sd,h4.ok,h4.idx,h4.mem,h4.lo,by have:=h4.hi; omega,h4.rows⟩
theorem MI.one {s y:Sto}{i:Nat}(h:MI s y i) (hi:6≤i):y.parts.length=1:=by have:=h.lo; have:=h.hi; omega
theorem U0:∀ (is:List Int) (bs:List (List Row)) (o:Option Int),CB o is bs=true→is.length=bs.length→∀ is' bs',CB o is' bs'=true→is'.length=bs'.length→(∀ id:Int,Bj id is bs=Bj id is' bs')→is=is'∧bs=bs':=by
 have low:∀ (is:List Int) (bs:List (List Row)) (o:Option Int),CB o is bs=true→∀ q,o=some q→∀ i∈is,q< i:=by
  intro is
  induction is with
  | nil=>intro bs o _ q _ i hi; cases hi
  | cons x xs ih =>
    intro bs o hg q hq i hi
    cases bs with
    | nil=>simp [CB] at hg
    | cons b bs =>
      simp only [CB,AW] at hg
      have hx:q< x:=by have:=hg.1.1.1.2; rw [hq] at this; simpa using this
      rcases List.mem_cons.1 hi with rfl | hi
      ·exact hx
      ·have:=ih bs (some x) hg.2 x rfl i hi; omega
 have none_of:∀ (is:List Int) (bs:List (List Row)) (id:Int),(∀ i∈is,i≠id)→Bj id is bs=[]:=by
  intro is
  induction is with
  | nil=>intro bs id _; unfold Bj; rfl
  | cons i is ih =>
    intro bs id h
    cases bs with
    | nil=>unfold Bj; rfl
    | cons b bs =>
      unfold Bj
      rw [if_neg (by have:=h i AD; simpa using this)]
      exact ih bs id (fun j hj=>h j (by simp [hj]))
 have mem_of:∀ (is:List Int) (bs:List (List Row)) (id:Int),Bj id is bs≠[]→id∈is:=by
  intro is bs id h
  rcases Classical.em (id∈is) with h1 | h1
  ·exact h1
  ·exact absurd (none_of is bs id (fun i hi e=>h1 (e▸hi))) h
 intro is
 induction is with
 | nil =>
   intro bs o hg hl is' bs' hg' hl' h
   cases bs with
   | cons _ _=>simp at hl
   | nil =>
     cases is' with
     | nil =>
       cases bs' with
       | nil=>exact ⟨rfl,rfl⟩
       | cons _ _=>simp at hl'
     | cons i is' =>
       cases bs' with
       | nil=>simp at hl'
       | cons b bs' =>
         simp only [CB,AW,decide_eq_true_eq] at hg'
         have:=h i
         unfold Bj at this
         rw [if_pos AD] at this
         rw [← this] at hg'
         exact absurd hg'.1.1.2 AD
 | cons i is ih =>
   intro bs o hg hl is' bs' hg' hl' h
   cases bs with
   | nil=>simp at hl
   | cons b bs =>
     have hg0:=hg
     simp only [CB,AW,decide_eq_true_eq] at hg
     cases is' with
     | nil =>
       cases bs' with
       | cons _ _=>simp at hl'
       | nil =>
         have:=h i
         unfold Bj at this
         rw [if_pos AD] at this
         rw [this] at hg
         exact absurd hg.1.1.2 AD
     | cons i' is' =>
       cases bs' with
       | nil=>simp at hl'
       | cons b' bs' =>
         have hg0':=hg'
         simp only [CB,AW,decide_eq_true_eq] at hg'
         have a1:Bj i (i'::is') (b'::bs')=b:=by rw [← h i]; unfold Bj; rw [if_pos AD]
         have a2:Bj i' (i::is) (b::bs)=b':=by rw [h i']; unfold Bj; rw [if_pos AD]
         have m1:=mem_of _ _ i (by rw [a1]; exact List.ne_nil_of_length_pos hg.1.1.2)
         have m2:=mem_of _ _ i' (by rw [a2]; exact List.ne_nil_of_length_pos hg'.1.1.2)
         have hii:i=i':=by
          rcases List.mem_cons.1 m1 with e | e
          ·exact e
          ·rcases List.mem_cons.1 m2 with e2 | e2
           ·exact e2.symm
           ·have:=low is' bs' (some i') hg'.2 i' rfl i e
            have:=low is bs (some i) hg.2 i rfl i' e2
            omega
         subst hii
         have hbb:b=b':=by
          rw [← a1]
          unfold Bj
          rw [if_pos AD]
         subst hbb
         have:=ih bs (some i) hg.2 (by simpa using hl) is' bs' hg'.2 (by simpa using hl') (fun id=>by
          by_cases e:i=id
          ·subst e
           rw [none_of is bs i (fun j hj e=>by have:=low is bs (some i) hg.2 i rfl j hj; omega),none_of is' bs' i (fun j hj e=>by have:=low is' bs' (some i) hg'.2 i rfl j hj; omega)]
          ·have:=h id
           unfold Bj at this
           rw [if_neg (by simpa using e),if_neg (by simpa using e)] at this
           exact this)
         rw [this.1,this.2]
         exact ⟨rfl,rfl⟩
theorem Px {p q:Prt}(hp:Ay p=true) (hq:Ay q=true) (h:∀ id:Int,partOf p id=partOf q id):p=q:=by
 unfold Ay at hp hq
 simp only [AW,decide_eq_true_eq] at hp hq
 obtain ⟨e1,e2⟩:=U0 p.ids p.blocks none hp.2 hp.1 q.ids q.blocks hq.2 hq.1 h
 cases p
 cases q
 simp only [Prt.mk.injEq]
 exact ⟨e1,e2⟩
theorem MI.same {s y z:Sto}{i:Nat}(hy:MI s y i) (hz:MI s z i) (hi:6≤i){p q:Prt}(hp:y.parts[0]? = some p) (hq:z.parts[0]? = some q) (hf:(p==q)=false):False:=by
 have l1:=hy.one hi
 have l2:=hz.one hi
 have e1:y.parts=[p]:=by
  match hh:y.parts,l1 with
  | [x],_=>rw [hh] at hp; simp at hp; rw [hp]
 have e2:z.parts=[q]:=by
  match hh:z.parts,l2 with
  | [x],_=>rw [hh] at hq; simp at hq; rw [hq]
 have kp:=(StoK.of hy.sd hy.ok).part p (by rw [e1]; simp)
 have kq:=(StoK.of hz.sd hz.ok).part q (by rw [e2]; simp)
 have key:p=q:=Px kp.2 kq.2 (fun id=>by
  by_cases hid:1≤id∧id≤6
  ·have h1:=hy.rows id hid.1 hid.2
   have h2:=hz.rows id hid.1 hid.2
   rw [e1] at h1
   rw [e2] at h2
   simp only [List.foldl_cons,List.foldl_nil] at h1 h2
   unfold CG at h1 h2
   rw [MR (kp.1.of id)] at h1
   rw [MR (kq.1.of id)] at h2
   rw [h1,h2]
  ·have g:∀ p:Prt,Ay p=true→partOf p id=[]:=fun p hp=>by
    unfold Ay at hp
    simp only [AW,decide_eq_true_eq] at hp
    have key:∀ (is:List Int) (bs:List (List Row)) (o:Option Int),CB o is bs=true→Bj id is bs=[]:=by
     intro is
     induction is with
     | nil=>intro bs o _; unfold Bj; rfl
     | cons i is ih =>
       intro bs o hg
       cases bs with
       | nil=>unfold Bj; rfl
       | cons b bs =>
         simp only [CB,AW] at hg
         have h5:=Bd hg.1.1.1.1
         unfold Bj
         rw [if_neg (by simp; omega)]
         exact ih bs _ hg.2
    exact key _ _ _ hp.2
   rw [g p kp.2,g q kq.2])
 rw [key] at hf
 simp at hf
end Go.Proofs.YtckdhcbbgmiccaaGreatDoor
namespace Go.Proofs.YtckdhcbbgmiccaaGreatDoor
theorem WD.dd {w:Wld}(h:WD w):DD w.disk:=⟨NmG.of h.wi.dsk.nm h.dn,by have:=h.wi.dsk.nl; omega,h.wi.dsk.nf,h.wi.dsk.file,by have:=h.wi.dsk.next; omega⟩
end Go.Proofs.YtckdhcbbgmiccaaGreatDoor
namespace Go.Proofs.YtckdhcbbgmiccaaGreatDoor
theorem RG.b2s {P:Program}{n:Nat}{K:Env→World→Prop}{ops:Array Oper}{j:Nat}{e:Env}{w:World}{s d:TypeId}{r c:Nat}{y:UInt8}{t:TypeId}{F:Nat→Prop}
 (ho:Own w r t F 1 c [y]) (h:T4 n ops j e=some (s,d,.slice (some ⟨r,0,none⟩) 1 c)) (ht:WT P s d=true)
 (H:RG P n K ops (j+1) (Am e (Ae ops j).dst (.string (bs [y]))) w):RG P n K ops j e w:=by
 obtain ⟨cs,h1,h2⟩:=ho.elem 0 y rfl
 cases h1
 have h3:Has w ⟨r,0,none⟩ [.int .u8 (y.toNat:Int)]:=by simpa using h2
 have h4:=KB (P:=P) (w:=w) h (MG h3 ht)
 exact RG.val h4.1 h4.2 H
theorem R8 {n:Int}(h:0≤n∧n≤255):∃ y:UInt8,(y.toNat:Int)=n:=by
 refine ⟨UInt8.ofNat n.toNat,?_⟩
 rw [UInt8.toNat_ofNat']
 omega
theorem Nu {n:Int}{y:UInt8}(h:(y.toNat:Int)=n):Value.int .u8 (IntKind.u8.wrap n)=Value.int .u8 (y.toNat:Int):=by
 have:=UInt8.toNat_lt y
 rw [← h,IntWalk.u8_in _ AB]
theorem Py:∀ (fs:List Fil) (nx:Int) (o:Option Int),Dy nx o fs=true→∀ f∈fs,1≤f.num∧f.num≤nx - 1∧Ay f.part=true:=by
 intro fs
 induction fs with
 | nil=>intro nx o _ f hf; cases hf
 | cons x xs ih =>
   intro nx o h f hf
   unfold Dy at h
   simp only [AW] at h
   rcases List.mem_cons.1 hf with rfl | hf
   ·have:=Bd h.1.1.1
    exact ⟨this.1,this.2,h.1.2⟩
   ·exact ih nx _ h.2 f hf
theorem Q5 {p:Prt}(h:PrtI p) (hk:Ay p=true):BJ p ⟨[],[]⟩=p:=by
 have hb:∀ id:Int,(partOf p id).length≤24:=fun id=>by
  have:=Gj hk id
  unfold Bn at this
  simp only [AW,decide_eq_true_eq] at this
  exact this.2
 have e:∀ id:Int,partOf (⟨[],[]⟩:Prt) id=[]:=fun id=>by unfold partOf Bj; rfl
 have hz:∀ id:Int,¬ (1≤id∧id≤6)→∀ q:Prt,Ay q=true→partOf q id=[]:=fun id hid q hq=>by
  unfold Ay at hq
  simp only [AW,decide_eq_true_eq] at hq
  have key:∀ (is:List Int) (bs:List (List Row)) (o:Option Int),CB o is bs=true→Bj id is bs=[]:=by
   intro is
   induction is with
   | nil=>intro bs o _; unfold Bj; rfl
   | cons i is ih =>
     intro bs o hg
     cases bs with
     | nil=>unfold Bj; rfl
     | cons b bs =>
       simp only [CB,AW] at hg
       have h5:=Bd hg.1.1.1.1
       unfold Bj
       rw [if_neg (by simp; omega)]
       exact ih bs _ hg.2
  exact key _ _ _ hq.2
 have hm:Ay (BJ p ⟨[],[]⟩)=true:=by
  unfold BJ
  refine Ph (fun b hb2=>?_) (by rw [EG]; omega)
  unfold Bc at hb2
  obtain ⟨i,_,rfl⟩:=List.mem_map.1 hb2
  rw [e,MQ]
  exact ⟨h.of _,hb _⟩
 refine Px hm hk (fun id=>?_)
 by_cases hid:1≤id∧id≤6
 ·rw [Nt _ _ hid.1 hid.2,e,MQ]
 ·rw [hz id hid _ hm,hz id hid _ hk]
theorem DJ {d:Dsk}(h:BE d=true):(1≤d.next∧d.next≤999)∧d.list.length≤6∧Dy d.next none d.files=true∧EJ d=true:=by
 unfold BE at h
 simp only [AW,decide_eq_true_eq] at h
 exact ⟨Bd h.1.1.1.1.1,h.1.1.1.2,h.1.1.2,h.1.2⟩
theorem DD.X0 {d:Dsk}(h:DD d) (hk:BE d=true):BW d=d:=by
 have hf:=(DJ hk).2.2.1
 have:d.files.map MC=d.files:=by
  have key:∀ f∈d.files,MC f=f:=fun f hm=>by
   unfold MC
   rw [Q5 (h.file f hm) (Py _ _ _ hf f hm).2.2]
  exact (List.map_congr_left key).trans (List.map_id _)
 unfold BW
 rw [this]
theorem DD.di {d:Dsk}(h:DD d) (hk:BE d=true):DskI d:=by
 obtain ⟨h1,h2,h3,h4⟩:=DJ hk
 have hth:∀ n∈d.list,∃ f∈d.files,f.num=n:=fun n hn=>(Fc d n).1 (E5 h4 n hn)
 refine ⟨(Gl hk).1,h.nf,h.file,h2,hth,fun n hn=>?_,h1⟩
 obtain ⟨f,hf,rfl⟩:=hth n hn
 have:=Py _ _ _ h3 f hf
 omega
theorem U1:(JT 0 [] []).length≤12:=by decide
theorem U2:DD ⟨[],[],[],0⟩:=⟨⟨by simp,NsD.nil,U1⟩,by simp,by simp,by simp,by simp⟩
end Go.Proofs.YtckdhcbbgmiccaaGreatDoor
namespace Go.Proofs.YtckdhcbbgmiccaaGreatDoor
def C5 (d:Dsk) (s:Sto):Bool:=BE d&&(nmB s.idx.names&&Ab s)&&decide (s.parts=d.list.map (BA d))&&decide (d.names=s.idx.names.take d.names.length)
theorem Ym {d:Dsk}{s:Sto}(h:BE d=false):false=C5 d s:=by unfold C5; rw [h]; rfl
theorem Yn {d:Dsk}{s:Sto}(h:(nmB s.idx.names&&Ab s)=false):false=C5 d s:=by unfold C5; rw [h,Bool.and_false]; rfl
theorem Yo {d:Dsk}{s:Sto}(h:s.parts≠d.list.map (BA d)):false=C5 d s:=by unfold C5; rw [decide_eq_false h,Bool.and_false]; rfl
theorem U3 {d:Dsk}{s:Sto}(h:d.names≠s.idx.names.take d.names.length):false=C5 d s:=by unfold C5; rw [decide_eq_false h,Bool.and_false]
theorem W9 {d:Dsk}{s:Sto}(h:(s.idx.names.length:Int)< d.names.length):false=C5 d s:=U3 (fun e=>by
 have:=congrArg List.length e
 rw [List.length_take] at this
 omega)
theorem Pz {d:Dsk}{s:Sto}(h1:BE d=true) (h2:(nmB s.idx.names&&Ab s)=true) (h3:s.parts=d.list.map (BA d)) (h4:d.names=s.idx.names.take d.names.length):true=C5 d s:=by unfold C5; rw [h1,h2,decide_eq_true h3,decide_eq_true h4]; rfl
structure Fits (d:Dsk) (s:Sto):Prop where
 dk:BE d=true
 nm:nmB s.idx.names=true
 sk:Ab s=true
 p:s.parts=d.list.map (BA d)
 m:d.names=s.idx.names.take d.names.length
theorem DX {d:Dsk}{s:Sto}(h:C5 d s=true):Fits d s:=by
 unfold C5 at h
 simp only [AW,decide_eq_true_eq] at h
 exact ⟨h.1.1.1,h.1.1.2.1,h.1.1.2.2,h.1.2,h.2⟩
def Ag (d:Dsk) (s:Sto):List Stp:=if C5 d s then BD d s else []
theorem Fj {d:Dsk}{s:Sto}(h:C5 d s=true):Ag d s=BD d s:=by unfold Ag; rw [if_pos h]
theorem P0 {d:Dsk}{s:Sto}(h:C5 d s=false):Ag d s=[]:=by unfold Ag; rw [if_neg (by simp [h])]
end Go.Proofs.YtckdhcbbgmiccaaGreatDoor
namespace Go.Proofs.YtckdhcbbgmiccaaGreatDoor
theorem Yp {d:Dsk}{s y:Sto}(hy:EY d y) (h:(s.parts==y.parts)=false):false=C5 d s:=Yo (fun e=>by
 have e2:s.parts=y.parts:=e.trans hy.2.1.symm
 rw [e2] at h
 simp at h)
theorem Yq {d:Dsk}{s y:Sto}(hy:EY d y) (h:(s.parts==y.parts)=true):s.parts=d.list.map (BA d):=(eq_of_beq h).trans hy.2.1
theorem Yr {d:Dsk}{s:Sto}(h:¬ (d.names.length:Int)≤s.idx.names.length):false=C5 d s:=W9 AB
theorem Ys {d:Dsk}{s y:Sto}{l:List (List Tag)}(hy:EY d y) (h1:BE d=true) (h2:(nmB s.idx.names&&Ab s)=true) (h3:(s.parts==y.parts)=true) (hl:l=s.idx.names.take d.names.length):(d.names==l)=C5 d s:=by
 subst hl
 by_cases e:d.names=s.idx.names.take d.names.length
 ·rw [beq_iff_eq.2 e]
  exact Pz h1 h2 (Yq hy h3) e
 ·rw [beq_eq_false_iff_ne.2 e]
  exact U3 e
def FG (d:Dsk):Bool:=(d.next==999) || decide ((d.files.length:Int)=20)
theorem XA {d:Dsk}(h:(d.next==999)=true):true=FG d:=by unfold FG; rw [h]; rfl
theorem U4 {d:Dsk}(h:d.next=999):true=FG d:=XA (by simp [h])
theorem XB {d:Dsk}(h:¬ d.next=999):((d.files.length:Int)==20)=FG d:=by unfold FG; rw [beq_eq_false_iff_ne.2 h,Bool.false_or]; by_cases e:(d.files.length:Int)=20 <;> simp [e]
theorem R9 {d:Dsk}(h:FG d=false):¬ d.next=999∧¬ (d.files.length:Int)=20:=by
 unfold FG at h
 simpa using h
theorem SA {d:Dsk}(h:FG d=true):d.next=999∨(d.files.length:Int)=20:=by
 unfold FG at h
 simpa using h
theorem Z3 {d:Dsk}{s:Sto}(h:C5 d s=false):[]=Ag d s:=(P0 h).symm
theorem Yt {d:Dsk}{s:Sto}(h:(s.mem.length:Int)=0∨(d.list.length:Int)=6∨FG d=true):[]=Ag d s:=by
 cases hf:C5 d s with
 | false=>exact Z3 hf
 | true =>
   rw [Fj hf,En]
   rcases h with h | h | h
   ·exact .inl h
   ·exact .inr (.inl AB)
   ·rcases SA h with h | h
    ·exact .inr (.inr (.inl AB))
    ·exact .inr (.inr (.inr AB))
theorem P1 {d:Dsk}{s:Sto}(hf:C5 d s=true) (h1:¬ (s.mem.length:Int)=0) (h2:¬ (d.list.length:Int)=6) (h3:FG d=false) (hd:DD d):[⟨1,d.next,Ak s.mem,[],[]⟩,⟨2,0,⟨[],[]⟩,d.list++[d.next],s.idx.names⟩]=Ag d s:=by
 have hk:=(DX hf).dk
 have:=(DJ hk).2.1
 have:=(DJ hk).1
 have:=hd.nf
 have:=R9 h3
 rw [Fj hf,Dd h1 AB AB AB]
theorem DO {d:Dsk}{s:Sto}(hs:SG s) (h:C5 d s=true):SD s:=by
 obtain ⟨h1,h2,h3,h4,h5⟩:=DX h
 exact hs.sd h2 (Og h3)
end Go.Proofs.YtckdhcbbgmiccaaGreatDoor
namespace Go.Proofs.YtckdhcbbgmiccaaGreatDoor
set_option maxRecDepth 100000
set_option maxHeartbeats 4000000
variable {w:World} {F:Nat→Prop} {a1 a2 a3 a4 a5 a6 a7:Option Addr} {n1 c1 n2 c2 n3 c3 n4 c4 n5 c5 n6 c6 n7 c7:Nat}
theorem EZ (a:List Row) (b:List Row) (h1:RepS w F a1 n1 c1 a) (h2:RepS w F a2 n2 c2 b)  : Calls Tryz.prog 224 [.slice a1 n1 c1,.slice a2 n2 c2].toArray w (Al fun rv w'=>rv=.bool ((a==b))∧Ext w w'):=by
 cases h1.len
 cases h2.len
 refine goT func224 ?_
 have Z:=((St.i0 F w).p h1).p h2
 have aj:=h1.max
 refine .s<|.g<|.r 1<|.d<|.s<|.s<|.g<|.r 4<|.ne (a.length:Int) (b.length:Int) (fun ac=>.d<|.ct<|.s<|.g<|.r 1<|.d<|T.rt func224 results224 (.bool false) ⟨(AG (by grind [Ac])),Z.xt⟩) fun ac=>.d<|.cf<|.sk<|.s<|.s<|.g<|.r 3<|.d<|.b 0<|T.Lp (0:Nat) (fun k=>([(0,.slice a1 a.length c1),(1,.slice a2 b.length c2),(12,vI (a.length:Int)),(13,vI (k:Int))],[],[],a.length - k,(k≤a.length)∧(a.drop k=b.drop k↔a=b))) [] Z ⟨AD,AD⟩ ?_
 rintro k ax w Z ⟨al,am⟩ ab
 refine .s<|.g<|.bp ((k:Int)< (a.length:Int)) (fun ae=>?_) (fun ae=>.d<|.s<|.cf<|.x 0 rfl<|.s<|.g<|.r 1<|.d<|T.rt func224 results224 (.bool true) ⟨(AG (by grind [Ac])),Z.xt⟩)
 refine .d<|.s<|.ct<|.sk<|.s<|.b 1<|.s<|.g<|.r 2<|.d<|.s<|T.Gd 8 Z fun w Z=>.r [0,1]<|gxd a k fun af E ao=>GA.Ix 2 1 E Z<|Z.el 1 E fun Z=>GA.Lg 3 0 0 Z<|.r [4,5]<|gxd b k fun ag aa aq=>GA.Ix 6 1 aa Z<|Z.el 1 aa fun Z=>GA.Lg 7 0 0 Z<|GA.Dn Z fun w Z=>RG.Xn (t:=69) (x:=af) (y:=ag) AA AA ?_
 cases ar:(af==ag)
 ·exact .d<|.ct<|.s<|.g<|.r 1<|.d<|T.rt func224 results224 (.bool false) ⟨(AG (by grind [Ac])),Z.xt⟩
 exact .d<|.cf<|.sk<|.ib 1<|.g<|.it ((k:Int)+1)<|.r 1<|.d<|ab (k+1) _ _ AA (Z.to 0 [] 2) ⟨AB,(by grind)⟩ (by (simp only []; omega))
theorem Is (s1:List (List Row)) (s2:List (List Row)) (h1:RepS w F a1 n1 c1 s1) (h2:RepS w F a2 n2 c2 s2)  : Calls Tryz.prog 223 [.slice a1 n1 c1,.slice a2 n2 c2,.func (.func 224) #[] #[]].toArray w (Al fun rv w'=>rv=.bool ((s1==s2))∧Ext w w'):=by
 cases h1.len
 cases h2.len
 refine goT func223 ?_
 have Z:=((St.i0 F w).p h1).p h2
 have aj:=h1.max
 refine .s<|.g<|.r 1<|.d<|.s<|.s<|.g<|.r 4<|.ne (s1.length:Int) (s2.length:Int) (fun ac=>.d<|.ct<|.s<|.g<|.r 1<|.d<|T.rt func223 results223 (.bool false) ⟨(AG (by grind [Ac])),Z.xt⟩) fun ac=>.d<|.cf<|.sk<|.s<|.s<|.g<|.r 3<|.d<|.b 0<|T.Lp (0:Nat) (fun k=>([(1,.slice a2 s2.length c2),(2,.func (.func 224) #[] #[]),(15,.slice a1 s1.length c1),(16,vI (s1.length:Int)),(17,vI (k:Int))],[],[],s1.length - k,(k≤s1.length)∧(s1.drop k=s2.drop k↔s1=s2))) [] Z ⟨AD,AD⟩ ?_
 rintro k ax w Z ⟨al,am⟩ ab
 refine .s<|.g<|.bp ((k:Int)< (s1.length:Int)) (fun ae=>?_) (fun ae=>.d<|.s<|.cf<|.x 0 rfl<|.s<|.g<|.r 1<|.d<|T.rt func223 results223 (.bool true) ⟨(AG (by grind [Ac])),Z.xt⟩)
 refine .d<|.s<|.ct<|.sk<|.s<|.b 1<|.s<|.g<|.r 1<|gxd s1 k fun af E ao=>RG.Ix 1 E Z<|Z.el 1 E fun ay az Z=>RG.Lh 0 0 Z<|.r 2<|.d<|.s<|.g<|.r 2<|gxd s2 k fun ag aa aq=>RG.Ix 2 aa Z<|Z.el 2 aa fun aA aB Z=>RG.Lh 0 0 Z<|.r 1<|.d<|.s<|.g<|.r 3<|RG.C0 (EZ af ag (Z.a 3) (Z.a 1)) Z fun w Z=>?_
 cases ar:(af==ag)
 ·exact .r 1<|.d<|.ct<|.s<|.g<|.r 1<|.d<|T.rt func223 results223 (.bool false) ⟨(AG (by grind [Ac])),Z.xt⟩
 exact .r 1<|.d<|.cf<|.sk<|.ib 1<|.g<|.it ((k:Int)+1)<|.r 1<|.d<|ab (k+1) _ _ AA (Z.to 0 [] 4) ⟨AB,(by grind)⟩ (by (simp only []; omega))
theorem Je (s1:List (List Tag)) (s2:List (List Tag)) (h1:RepS w F a1 n1 c1 s1) (h2:RepS w F a2 n2 c2 s2)  : Calls Tryz.prog 177 [.slice a1 n1 c1,.slice a2 n2 c2,.func (.func 178) #[] #[]].toArray w (Al fun rv w'=>rv=.bool ((s1==s2))∧Ext w w'):=by
 cases h1.len
 cases h2.len
 refine goT func177 ?_
 have Z:=((St.i0 F w).p h1).p h2
 have aj:=h1.max
 refine .s<|.g<|.r 1<|.d<|.s<|.s<|.g<|.r 4<|.ne (s1.length:Int) (s2.length:Int) (fun ac=>.d<|.ct<|.s<|.g<|.r 1<|.d<|T.rt func177 results177 (.bool false) ⟨(AG (by grind [Ac])),Z.xt⟩) fun ac=>.d<|.cf<|.sk<|.s<|.s<|.g<|.r 3<|.d<|.b 0<|T.Lp (0:Nat) (fun k=>([(1,.slice a2 s2.length c2),(2,.func (.func 178) #[] #[]),(15,.slice a1 s1.length c1),(16,vI (s1.length:Int)),(17,vI (k:Int))],[],[],s1.length - k,(k≤s1.length)∧(s1.drop k=s2.drop k↔s1=s2))) [] Z ⟨AD,AD⟩ ?_
 rintro k ax w Z ⟨al,am⟩ ab
 refine .s<|.g<|.bp ((k:Int)< (s1.length:Int)) (fun ae=>?_) (fun ae=>.d<|.s<|.cf<|.x 0 rfl<|.s<|.g<|.r 1<|.d<|T.rt func177 results177 (.bool true) ⟨(AG (by grind [Ac])),Z.xt⟩)
 refine .d<|.s<|.ct<|.sk<|.s<|.b 1<|.s<|.g<|.r 1<|gxd s1 k fun af E ao=>RG.Ix 1 E Z<|Z.el 1 E fun ay az Z=>RG.Lh 0 0 Z<|.r 2<|.d<|.s<|.g<|.r 2<|gxd s2 k fun ag aa aq=>RG.Ix 2 aa Z<|Z.el 2 aa fun aA aB Z=>RG.Lh 0 0 Z<|.r 1<|.d<|.s<|.g<|.r 3<|RG.C0 (Ct af ag (Z.a 3) (Z.a 1)) Z fun w Z=>?_
 cases ar:(af==ag)
 ·exact .r 1<|.d<|.ct<|.s<|.g<|.r 1<|.d<|T.rt func177 results177 (.bool false) ⟨(AG (by grind [Ac])),Z.xt⟩
 exact .r 1<|.d<|.cf<|.sk<|.ib 1<|.g<|.it ((k:Int)+1)<|.r 1<|.d<|ab (k+1) _ _ AA (Z.to 0 [] 4) ⟨AB,(by grind)⟩ (by (simp only []; omega))
theorem LN (a:Prt) (b:Prt) (h1:RepS w F a1 n1 c1 a.ids) (h2:RepS w F a2 n2 c2 a.blocks) (h3:RepS w F a3 n3 c3 b.ids) (h4:RepS w F a4 n4 c4 b.blocks)  : Calls Tryz.prog 176 [.agg #[.slice a1 n1 c1,.slice a2 n2 c2],.agg #[.slice a3 n3 c3,.slice a4 n4 c4]].toArray w (Al fun rv w'=>rv=.bool ((a==b))∧Ext w w'):=by
 cases h1.len
 cases h2.len
 cases h3.len
 cases h4.len
 refine goT func176 ?_
 have Z:=((((St.i0 F w).p h1).p h2).p h3).p h4
 have E:=h1.max
 have aa:=h2.max
 have ab:=h3.max
 have ac:=h4.max
 refine .s<|.g<|RG.Np Z fun af w Z=>RG.Np Z fun ag w Z=>.r 1<|.d<|.s<|.g<|.r 1<|RG.Lb 1 Z<|.r 1<|RG.Lb 0 Z<|RG.C0 (EN a.ids b.ids (Z.a 3) (Z.a 1)) Z fun w Z=>?_
 cases ae:(a.ids==b.ids)
 ·exact .r 8<|.d<|T.rt func176 results176 (.bool false) ⟨(AG (by cases a; cases b; grind)),Z.xt⟩
 exact .r 2<|RG.Lb 1 Z<|.r 1<|RG.Lb 0 Z<|RG.C0 (Is a.blocks b.blocks (Z.a 2) (Z.a 0)) Z fun w Z=>.r 2<|.d<|T.rt func176 results176 (.bool (a.blocks==b.blocks)) ⟨(AG (by cases a; cases b; grind)),Z.xt⟩
theorem Jf (s1:List Prt) (s2:List Prt) (h1:RepS w F a1 n1 c1 s1) (h2:RepS w F a2 n2 c2 s2)  : Calls Tryz.prog 174 [.slice a1 n1 c1,.slice a2 n2 c2,.func (.func 176) #[] #[]].toArray w (Al fun rv w'=>rv=.bool ((s1==s2))∧Ext w w'):=by
 cases h1.len
 cases h2.len
 refine goT func174 ?_
 have Z:=((St.i0 F w).p h1).p h2
 have aj:=h1.max
 refine .s<|.g<|.r 1<|.d<|.s<|.s<|.g<|.r 4<|.ne (s1.length:Int) (s2.length:Int) (fun ac=>.d<|.ct<|.s<|.g<|.r 1<|.d<|T.rt func174 results174 (.bool false) ⟨(AG (by grind [Ac])),Z.xt⟩) fun ac=>.d<|.cf<|.sk<|.s<|.s<|.g<|.r 3<|.d<|.b 0<|T.Lp (0:Nat) (fun k=>([(1,.slice a2 s2.length c2),(2,.func (.func 176) #[] #[]),(15,.slice a1 s1.length c1),(16,vI (s1.length:Int)),(17,vI (k:Int))],[],[],s1.length - k,(k≤s1.length)∧(s1.drop k=s2.drop k↔s1=s2))) [] Z ⟨AD,AD⟩ ?_
 rintro k ax w Z ⟨al,am⟩ ab
 refine .s<|.g<|.bp ((k:Int)< (s1.length:Int)) (fun ae=>?_) (fun ae=>.d<|.s<|.cf<|.x 0 rfl<|.s<|.g<|.r 1<|.d<|T.rt func174 results174 (.bool true) ⟨(AG (by grind [Ac])),Z.xt⟩)
 refine .d<|.s<|.ct<|.sk<|.s<|.b 1<|.s<|.g<|.r 1<|gxd s1 k fun af E ao=>RG.Ix 1 E Z<|Z.el 1 E fun ay az aA aB Z=>RG.Lg 0 0 Z<|RG.Np Z fun aC w Z=>.r 1<|RG.Ss 0 Z fun w Z=>.d<|.s<|.g<|.r 2<|gxd s2 k fun ag aa aq=>RG.Ix 3 aa Z<|Z.el 3 aa fun aD aE aF aG Z=>RG.Lg 0 0 Z<|RG.Np Z fun aH w Z=>RG.Ss 0 Z fun w Z=>.d<|.s<|.g<|.r 1<|RG.Ln 1 Z<|RG.Ln 0 Z<|RG.C0 (LN af ag (Z.a 4) (Z.a 5) (Z.a 1) (Z.a 2)) Z fun w Z=>?_
 cases ar:(af==ag)
 ·exact .r 1<|.d<|.ct<|.s<|.g<|.r 1<|.d<|T.rt func174 results174 (.bool false) ⟨(AG (by grind [Ac])),Z.xt⟩
 exact .r 1<|.d<|.cf<|.sk<|.ib 1<|.g<|.it ((k:Int)+1)<|.r 1<|.d<|ab (k+1) _ _ AA (Z.to 2 [] 6) ⟨AB,(by grind)⟩ (by (simp only []; omega))
theorem Gm (d:Dsk) (h1:RepS w F a1 n1 c1 d.files) (h2:RepS w F a2 n2 c2 d.list) (h3:RepS w F a3 n3 c3 d.names)  : Calls Tryz.prog 121 [.agg #[.slice a1 n1 c1,.slice a2 n2 c2,.slice a3 n3 c3,.int .i64 d.next]].toArray w (Al fun rv w'=>rv=.bool (FG d)∧Ext w w'):=by
 cases h1.len
 cases h2.len
 cases h3.len
 refine goT func121 ?_
 have Z:=(((St.i0 F w).p h1).p h2).p h3
 exact .s<|.g<|RG.Np Z fun ae w Z=>.r 1<|.d<|.s<|.g<|.r 1<|RG.Lb 0 Z<|.eq d.next 999 (fun E=>.r 7<|.d<|T.rt func121 results121 (.bool true) ⟨(AG (by exact U4 ‹_›)),Z.xt⟩) fun E=>.r 2<|RG.Lb 0 Z<|.r 4<|.d<|T.rt func121 results121 (.bool ((d.files.length:Int)==20)) ⟨(AG (by exact XB ‹_›)),Z.xt⟩
theorem Mc (s:Sto) (d:Dsk) (h1:RepS w F a1 n1 c1 s.idx.names) (h2:RepS w F a2 n2 c2 s.idx.AY) (h3:RepS w F a3 n3 c3 s.parts) (h4:RepS w F a4 n4 c4 s.mem) (h5:RepS w F a5 n5 c5 d.files) (h6:RepS w F a6 n6 c6 d.list) (h7:RepS w F a7 n7 c7 d.names) (p0:SG s) (p1:DD d):Calls Tryz.prog 120 [.agg #[.slice a1 n1 c1,.slice a2 n2 c2,.slice a3 n3 c3,.slice a4 n4 c4],.agg #[.slice a5 n5 c5,.slice a6 n6 c6,.slice a7 n7 c7,.int .i64 d.next]].toArray w (Al fun rv w'=>rv=.bool (C5 d s)∧Ext w w'):=by
 cases h1.len
 cases h2.len
 cases h3.len
 cases h4.len
 cases h5.len
 cases h6.len
 cases h7.len
 refine goT func120 ?_
 have Z:=(((((((St.i0 F w).p h1).p h2).p h3).p h4).p h5).p h6).p h7
 have ak:=h7.max
 refine .s<|.g<|RG.Np Z fun ar w Z=>RG.Np Z fun ax w Z=>.r 1<|.d<|.s<|.s<|T.Gd 14 Z fun w Z=>GA.Ln 0 1 Z<|GA.C0 1 Z (fun w Z=>FA s (Z.a 6) (Z.a 5) (Z.a 4) (Z.a 3) p0) ?_
 cases al:(nmB s.idx.names&&Ab s)
 ·exact .r [2,3,4,5,6,7,8]<|GA.Sk Z fun w Z=>.r 3<|.d<|.ct<|.s<|.g<|.r 1<|.d<|T.rt func120 results120 (.bool false) ⟨(AG (by exact Yn ‹_›)),Z.xt⟩
 refine .r [2,3]<|GA.Ln 4 0 Z<|GA.C0 5 Z (fun w Z=>DN d (Z.a 2) (Z.a 1) (Z.a 0) p1) ?_
 cases am:(BE d)
 ·exact .r [6,7,8]<|GA.Sk Z fun w Z=>.r 3<|.d<|.ct<|.s<|.g<|.r 1<|.d<|T.rt func120 results120 (.bool false) ⟨(AG (by exact Ym ‹_›)),Z.xt⟩
 refine .r [6,7,8,9]<|GA.Lb 10 1 Z<|GA.Ln 11 0 Z<|.go 12<|GE.Cg (fun w Z=>Er d (Z.a 2) (Z.a 1) (Z.a 0) p1 (E5 (DJ ‹_›).2.2.2)) Z ?_
 rintro w ay w Z ⟨⟨aa,ac,ao⟩,E⟩
 refine ⟨Ext.chg E,?_⟩
 refine GA.vS Z ac E ?_
 intro az aA aB aC aD aE aF aG Z
 refine .r [13]<|GA.Dn Z fun w Z=>RG.C0 (Jf s.parts aa.parts (Z.a 8) (Z.a 2)) Z fun w Z=>?_
 cases aq:(s.parts==aa.parts)
 ·exact .r 2<|.d<|.ct<|.s<|.g<|.r 1<|.d<|T.rt func120 results120 (.bool false) ⟨(AG (by exact Yp ‹_› ‹_›)),Z.xt⟩
 exact .r 2<|.d<|.cf<|.sk<|.s<|.g<|.r 1<|RG.Lb 0 Z<|.r 2<|.d<|.s<|T.Gd 14 Z fun w Z=>.r [0,1,2]<|GA.Lb 3 1 Z<|.r [4]<|GA.G5 (i:=5) ((d.names.length:Int)≤(s.idx.names.length:Int)) AA (fun ab=>.r [6,7]<|GA.Lb 8 0 Z<|.r [9,10]<|GA.Lb 11 1 Z<|.r [12]<|GA.Sb (hhi:=bdS AA) 13 10 0 d.names.length s.idx.names Z fun aH aI Z=>GA.Dn Z fun w Z=>RG.C0 (Je d.names ((s.idx.names.take d.names.length).drop 0) (Z.a 5) (Z.a 0)) Z fun w Z=>.r 2<|.d<|T.rt func120 results120 (.bool (d.names==((s.idx.names.take d.names.length).drop 0))) ⟨(AG (by exact Ys ‹_› ‹_› ‹_› ‹_› AD)),Z.xt⟩) fun ab=>.r [6]<|GA.Sk Z fun w Z=>.r 3<|.d<|T.rt func120 results120 (.bool false) ⟨(AG (by exact Yr ‹_›)),Z.xt⟩
theorem Jg (d:Dsk) (s:Sto) (h1:RepS w F a1 n1 c1 d.files) (h2:RepS w F a2 n2 c2 d.list) (h3:RepS w F a3 n3 c3 d.names) (h4:RepS w F a4 n4 c4 s.idx.names) (h5:RepS w F a5 n5 c5 s.idx.AY) (h6:RepS w F a6 n6 c6 s.parts) (h7:RepS w F a7 n7 c7 s.mem) (p0:DD d) (p1:SG s):Calls Tryz.prog 63 [.agg #[.slice a1 n1 c1,.slice a2 n2 c2,.slice a3 n3 c3,.int .i64 d.next],.agg #[.slice a4 n4 c4,.slice a5 n5 c5,.slice a6 n6 c6,.slice a7 n7 c7]].toArray w (Al fun rv w'=>VL (ge w.heap.size) w' (Ag d s:List Stp) rv∧Ext w w'):=by
 cases h1.len
 cases h2.len
 cases h3.len
 cases h4.len
 cases h5.len
 cases h6.len
 cases h7.len
 refine goT func63 ?_
 have Z:=(((((((St.i0 F w).p h1).p h2).p h3).p h4).p h5).p h6).p h7
 have af:=h2.max
 have ah:=h4.max
 have ak:=h7.max
 refine .s<|.g<|RG.Np Z fun ab w Z=>RG.Np Z fun ac w Z=>.r 1<|.d<|.s<|.s<|.g<|RG.Ln 0 Z<|RG.Ln 1 Z<|RG.C0 (Mc s d (Z.a 3) (Z.a 2) (Z.a 1) (Z.a 0) (Z.a 6) (Z.a 5) (Z.a 4) p1 p0) Z fun w Z=>?_
 cases al:(C5 d s)
 ·exact .r 17<|.d<|.ct<|.s<|.g<|RG.N0 Stp 0 Z fun bd w Z=>.r 1<|.d<|T.Rt func63 results63 ⟨Z.rM 0 ([]:List Stp) (by exact Z3 ‹_›),Z.xt⟩
 refine .r 3<|RG.Lb 0 Z<|.r 1<|.eq (s.mem.length:Int) 0 (fun E=>.r 11<|.d<|.ct<|.s<|.g<|RG.N0 Stp 0 Z fun bg w Z=>.r 1<|.d<|T.Rt func63 results63 ⟨Z.rM 0 ([]:List Stp) (by exact Yt (.inl ‹_›)),Z.xt⟩) fun E=>.r 3<|RG.Lb 1 Z<|.r 1<|.eq (d.list.length:Int) 6 (fun aa=>.r 5<|.d<|.ct<|.s<|.g<|RG.N0 Stp 0 Z fun bh w Z=>.r 1<|.d<|T.Rt func63 results63 ⟨Z.rM 0 ([]:List Stp) (by exact Yt (.inr (.inl ‹_›))),Z.xt⟩) fun aa=>.r 2<|RG.Ln 1 Z<|RG.C0 (Gm d (Z.a 6) (Z.a 5) (Z.a 4)) Z fun w Z=>?_
 cases am:(FG d)
 ·refine .r 1<|.d<|.cf<|.sk<|.s<|T.GS 18 [ac,ab] Z fun _ w Z=>.r [0]<|GA.Lb (q:=1) 1 1 Z<|GA.Ln 2 0 Z<|.r [6]<|GA.Lb (q:=1) 7 1 Z<|.r [9]<|GA.Lb (q:=1) 10 1 Z<|.r [13,14]<|GA.Lb 15 0 Z<|GE.many [3,5,11] AA (all_cons ?_ (all_cons ?_ (all_cons ?_ all_nil)))
  ·refine GE.CS (fun w Z=>CH s (Z.a 3) (Z.a 2) (Z.a 1) (Z.a 0) (StoK.of (DO p1 ‹_›) (DX ‹_›).sk).row (StoK.of (DO p1 ‹_›) (DX ‹_›).sk).KS.J9 (by have:=p1.nm2; omega)) Z fun bi bj bk bm w Z=>.r [4]<|.tw 5 11 ?_ ?_
   ·refine GE.N0 Int 0 Z fun bn w Z=>.tw 8 11 ?_ ?_
    ·exact GE.An (hs:=by (simp only [List.nil_append,List.length_nil,List.length_append,List.length_cons] <;> exact (by have:=p0.nl; omega))) (hf:=.inr BB) 0 7 ([]:List Int) d.list [1,2] Z fun bo bq w Z=>.go 11<|GE.Nb 1 Z fun br w Z=>.go 12<|GE.Ap (hs:=by (simp only [List.nil_append,List.length_nil,List.length_append,List.length_cons] <;> exact (by have:=p0.nl; omega))) 0 0 ([]++d.list) d.next [] [1,2] Z fun bt bu w Z=>.go 16<|GE.CO 0 (fun w Z=>Af s.idx.names (Z.a 5) (by have:=p1.ix.g.len; omega) (by (intro n hn; have:=(p1.ix.g.sz n hn).1; omega))) Z fun bv bw w Z=>.r [17]<|GA.Do Z fun w Z=>RG.Nl 0 ([(⟨1,d.next,(⟨(Ak s.mem).ids,(Ak s.mem).blocks⟩:Prt),([]:List Int),([]:List (List Tag))⟩:Stp),(⟨2,0,(⟨([]:List Int),([]:List (List Row))⟩:Prt),(([]++d.list)++[d.next]),s.idx.names⟩:Stp)]:List Stp) [[6,7,5,4],[1,0,3,2]] ((((((Z.nl Int).nl (List Tag)).sl 1).sl 0).nl Int).nl (List Row)) fun bz w Z=>.r 1<|.d<|T.Rt func63 results63 ⟨Z.rM 0 ([(⟨1,d.next,(⟨(Ak s.mem).ids,(Ak s.mem).blocks⟩:Prt),([]:List Int),([]:List (List Tag))⟩:Stp),(⟨2,0,(⟨([]:List Int),([]:List (List Row))⟩:Prt),(([]++d.list)++[d.next]),s.idx.names⟩:Stp)]:List Stp) (by exact P1 ‹_› ‹_› ‹_› ‹_› p0),Z.xt⟩
    exact GE.Nb 1 Z fun bA w Z=>.go 8<|GE.An (hs:=by (simp only [List.nil_append,List.length_nil,List.length_append,List.length_cons] <;> exact (by have:=p0.nl; omega))) (hf:=.inr BB) 1 7 ([]:List Int) d.list [2,3] Z fun bB bC w Z=>.go 12<|GE.Ap (hs:=by (simp only [List.nil_append,List.length_nil,List.length_append,List.length_cons] <;> exact (by have:=p0.nl; omega))) 0 0 ([]++d.list) d.next [] [1,2] Z fun bD bE w Z=>.go 16<|GE.CO 0 (fun w Z=>Af s.idx.names (Z.a 5) (by have:=p1.ix.g.len; omega) (by (intro n hn; have:=(p1.ix.g.sz n hn).1; omega))) Z fun bF bG w Z=>.r [17]<|GA.Do Z fun w Z=>RG.Nl 0 ([(⟨1,d.next,(⟨(Ak s.mem).ids,(Ak s.mem).blocks⟩:Prt),([]:List Int),([]:List (List Tag))⟩:Stp),(⟨2,0,(⟨([]:List Int),([]:List (List Row))⟩:Prt),(([]++d.list)++[d.next]),s.idx.names⟩:Stp)]:List Stp) [[6,7,5,4],[1,0,3,2]] ((((((Z.nl Int).nl (List Tag)).sl 1).sl 0).nl Int).nl (List Row)) fun bH w Z=>.r 1<|.d<|T.Rt func63 results63 ⟨Z.rM 0 ([(⟨1,d.next,(⟨(Ak s.mem).ids,(Ak s.mem).blocks⟩:Prt),([]:List Int),([]:List (List Tag))⟩:Stp),(⟨2,0,(⟨([]:List Int),([]:List (List Row))⟩:Prt),(([]++d.list)++[d.next]),s.idx.names⟩:Stp)]:List Stp) (by exact P1 ‹_› ‹_› ‹_› ‹_› p0),Z.xt⟩
   exact GE.Nb 1 Z fun bI w Z=>.go 5<|GE.N0 Int 0 Z fun bJ w Z=>.go 8<|GE.An (hs:=by (simp only [List.nil_append,List.length_nil,List.length_append,List.length_cons] <;> exact (by have:=p0.nl; omega))) (hf:=.inr BB) 0 7 ([]:List Int) d.list [2,3] Z fun bK bL w Z=>.go 12<|GE.Ap (hs:=by (simp only [List.nil_append,List.length_nil,List.length_append,List.length_cons] <;> exact (by have:=p0.nl; omega))) 0 1 ([]++d.list) d.next [] [1,2] Z fun bM bN w Z=>.go 16<|GE.CO 0 (fun w Z=>Af s.idx.names (Z.a 5) (by have:=p1.ix.g.len; omega) (by (intro n hn; have:=(p1.ix.g.sz n hn).1; omega))) Z fun bO bP w Z=>.r [17]<|GA.Do Z fun w Z=>RG.Nl 0 ([(⟨1,d.next,(⟨(Ak s.mem).ids,(Ak s.mem).blocks⟩:Prt),([]:List Int),([]:List (List Tag))⟩:Stp),(⟨2,0,(⟨([]:List Int),([]:List (List Row))⟩:Prt),(([]++d.list)++[d.next]),s.idx.names⟩:Stp)]:List Stp) [[6,7,5,4],[1,0,3,2]] ((((((Z.nl Int).nl (List Tag)).sl 1).sl 0).nl Int).nl (List Row)) fun bQ w Z=>.r 1<|.d<|T.Rt func63 results63 ⟨Z.rM 0 ([(⟨1,d.next,(⟨(Ak s.mem).ids,(Ak s.mem).blocks⟩:Prt),([]:List Int),([]:List (List Tag))⟩:Stp),(⟨2,0,(⟨([]:List Int),([]:List (List Row))⟩:Prt),(([]++d.list)++[d.next]),s.idx.names⟩:Stp)]:List Stp) (by exact P1 ‹_› ‹_› ‹_› ‹_› p0),Z.xt⟩
  ·refine GE.N0 Int 0 Z fun bR w Z=>.tw 3 11 ?_ ?_
   ·refine GE.CS (fun w Z=>CH s (Z.a 3) (Z.a 2) (Z.a 1) (Z.a 0) (StoK.of (DO p1 ‹_›) (DX ‹_›).sk).row (StoK.of (DO p1 ‹_›) (DX ‹_›).sk).KS.J9 (by have:=p1.nm2; omega)) Z fun bS bT bU bV w Z=>.r [4]<|.tw 8 11 ?_ ?_
    ·exact GE.An (hs:=by (simp only [List.nil_append,List.length_nil,List.length_append,List.length_cons] <;> exact (by have:=p0.nl; omega))) (hf:=.inr BB) 0 7 ([]:List Int) d.list [1,2] Z fun bW bX w Z=>.go 11<|GE.Nb 1 Z fun bY w Z=>.go 12<|GE.Ap (hs:=by (simp only [List.nil_append,List.length_nil,List.length_append,List.length_cons] <;> exact (by have:=p0.nl; omega))) 0 0 ([]++d.list) d.next [] [1,2] Z fun bZ b0 w Z=>.go 16<|GE.CO 0 (fun w Z=>Af s.idx.names (Z.a 5) (by have:=p1.ix.g.len; omega) (by (intro n hn; have:=(p1.ix.g.sz n hn).1; omega))) Z fun b6 b7 w Z=>.r [17]<|GA.Do Z fun w Z=>RG.Nl 0 ([(⟨1,d.next,(⟨(Ak s.mem).ids,(Ak s.mem).blocks⟩:Prt),([]:List Int),([]:List (List Tag))⟩:Stp),(⟨2,0,(⟨([]:List Int),([]:List (List Row))⟩:Prt),(([]++d.list)++[d.next]),s.idx.names⟩:Stp)]:List Stp) [[6,7,5,4],[1,0,3,2]] ((((((Z.nl Int).nl (List Tag)).sl 1).sl 0).nl Int).nl (List Row)) fun b8 w Z=>.r 1<|.d<|T.Rt func63 results63 ⟨Z.rM 0 ([(⟨1,d.next,(⟨(Ak s.mem).ids,(Ak s.mem).blocks⟩:Prt),([]:List Int),([]:List (List Tag))⟩:Stp),(⟨2,0,(⟨([]:List Int),([]:List (List Row))⟩:Prt),(([]++d.list)++[d.next]),s.idx.names⟩:Stp)]:List Stp) (by exact P1 ‹_› ‹_› ‹_› ‹_› p0),Z.xt⟩
    exact GE.Nb 1 Z fun b9 w Z=>.go 8<|GE.An (hs:=by (simp only [List.nil_append,List.length_nil,List.length_append,List.length_cons] <;> exact (by have:=p0.nl; omega))) (hf:=.inr BB) 1 7 ([]:List Int) d.list [2,3] Z fun cd ce w Z=>.go 12<|GE.Ap (hs:=by (simp only [List.nil_append,List.length_nil,List.length_append,List.length_cons] <;> exact (by have:=p0.nl; omega))) 0 0 ([]++d.list) d.next [] [1,2] Z fun cg ci w Z=>.go 16<|GE.CO 0 (fun w Z=>Af s.idx.names (Z.a 5) (by have:=p1.ix.g.len; omega) (by (intro n hn; have:=(p1.ix.g.sz n hn).1; omega))) Z fun cj ck w Z=>.r [17]<|GA.Do Z fun w Z=>RG.Nl 0 ([(⟨1,d.next,(⟨(Ak s.mem).ids,(Ak s.mem).blocks⟩:Prt),([]:List Int),([]:List (List Tag))⟩:Stp),(⟨2,0,(⟨([]:List Int),([]:List (List Row))⟩:Prt),(([]++d.list)++[d.next]),s.idx.names⟩:Stp)]:List Stp) [[6,7,5,4],[1,0,3,2]] ((((((Z.nl Int).nl (List Tag)).sl 1).sl 0).nl Int).nl (List Row)) fun cm w Z=>.r 1<|.d<|T.Rt func63 results63 ⟨Z.rM 0 ([(⟨1,d.next,(⟨(Ak s.mem).ids,(Ak s.mem).blocks⟩:Prt),([]:List Int),([]:List (List Tag))⟩:Stp),(⟨2,0,(⟨([]:List Int),([]:List (List Row))⟩:Prt),(([]++d.list)++[d.next]),s.idx.names⟩:Stp)]:List Stp) (by exact P1 ‹_› ‹_› ‹_› ‹_› p0),Z.xt⟩
   exact GE.Nb 1 Z fun co w Z=>.go 3<|GE.CS (fun w Z=>CH s (Z.a 3) (Z.a 2) (Z.a 1) (Z.a 0) (StoK.of (DO p1 ‹_›) (DX ‹_›).sk).row (StoK.of (DO p1 ‹_›) (DX ‹_›).sk).KS.J9 (by have:=p1.nm2; omega)) Z fun cp cq cr cu w Z=>.r [4]<|.go 8<|GE.An (hs:=by (simp only [List.nil_append,List.length_nil,List.length_append,List.length_cons] <;> exact (by have:=p0.nl; omega))) (hf:=.inr BB) 1 7 ([]:List Int) d.list [2,3] Z fun ao aq w Z=>.go 12<|GE.Ap (hs:=by (simp only [List.nil_append,List.length_nil,List.length_append,List.length_cons] <;> exact (by have:=p0.nl; omega))) 0 0 ([]++d.list) d.next [] [1,2] Z fun ar ax w Z=>.go 16<|GE.CO 0 (fun w Z=>Af s.idx.names (Z.a 5) (by have:=p1.ix.g.len; omega) (by (intro n hn; have:=(p1.ix.g.sz n hn).1; omega))) Z fun ay az w Z=>.r [17]<|GA.Do Z fun w Z=>RG.Nl 0 ([(⟨1,d.next,(⟨(Ak s.mem).ids,(Ak s.mem).blocks⟩:Prt),([]:List Int),([]:List (List Tag))⟩:Stp),(⟨2,0,(⟨([]:List Int),([]:List (List Row))⟩:Prt),(([]++d.list)++[d.next]),s.idx.names⟩:Stp)]:List Stp) [[6,7,5,4],[1,0,3,2]] ((((((Z.nl Int).nl (List Tag)).sl 1).sl 0).nl Int).nl (List Row)) fun aA w Z=>.r 1<|.d<|T.Rt func63 results63 ⟨Z.rM 0 ([(⟨1,d.next,(⟨(Ak s.mem).ids,(Ak s.mem).blocks⟩:Prt),([]:List Int),([]:List (List Tag))⟩:Stp),(⟨2,0,(⟨([]:List Int),([]:List (List Row))⟩:Prt),(([]++d.list)++[d.next]),s.idx.names⟩:Stp)]:List Stp) (by exact P1 ‹_› ‹_› ‹_› ‹_› p0),Z.xt⟩
  refine GE.Nb 1 Z fun aB w Z=>.tw 3 5 ?_ ?_
  ·exact GE.CS (fun w Z=>CH s (Z.a 3) (Z.a 2) (Z.a 1) (Z.a 0) (StoK.of (DO p1 ‹_›) (DX ‹_›).sk).row (StoK.of (DO p1 ‹_›) (DX ‹_›).sk).KS.J9 (by have:=p1.nm2; omega)) Z fun aC aD aE aF w Z=>.r [4]<|.go 5<|GE.N0 Int 0 Z fun aG w Z=>.go 8<|GE.An (hs:=by (simp only [List.nil_append,List.length_nil,List.length_append,List.length_cons] <;> exact (by have:=p0.nl; omega))) (hf:=.inr BB) 0 7 ([]:List Int) d.list [2,3] Z fun aH aI w Z=>.go 12<|GE.Ap (hs:=by (simp only [List.nil_append,List.length_nil,List.length_append,List.length_cons] <;> exact (by have:=p0.nl; omega))) 0 1 ([]++d.list) d.next [] [1,2] Z fun aJ aK w Z=>.go 16<|GE.CO 0 (fun w Z=>Af s.idx.names (Z.a 5) (by have:=p1.ix.g.len; omega) (by (intro n hn; have:=(p1.ix.g.sz n hn).1; omega))) Z fun aL aM w Z=>.r [17]<|GA.Do Z fun w Z=>RG.Nl 0 ([(⟨1,d.next,(⟨(Ak s.mem).ids,(Ak s.mem).blocks⟩:Prt),([]:List Int),([]:List (List Tag))⟩:Stp),(⟨2,0,(⟨([]:List Int),([]:List (List Row))⟩:Prt),(([]++d.list)++[d.next]),s.idx.names⟩:Stp)]:List Stp) [[6,7,5,4],[1,0,3,2]] ((((((Z.nl Int).nl (List Tag)).sl 1).sl 0).nl Int).nl (List Row)) fun aN w Z=>.r 1<|.d<|T.Rt func63 results63 ⟨Z.rM 0 ([(⟨1,d.next,(⟨(Ak s.mem).ids,(Ak s.mem).blocks⟩:Prt),([]:List Int),([]:List (List Tag))⟩:Stp),(⟨2,0,(⟨([]:List Int),([]:List (List Row))⟩:Prt),(([]++d.list)++[d.next]),s.idx.names⟩:Stp)]:List Stp) (by exact P1 ‹_› ‹_› ‹_› ‹_› p0),Z.xt⟩
  exact GE.N0 Int 0 Z fun aO w Z=>.go 3<|GE.CS (fun w Z=>CH s (Z.a 3) (Z.a 2) (Z.a 1) (Z.a 0) (StoK.of (DO p1 ‹_›) (DX ‹_›).sk).row (StoK.of (DO p1 ‹_›) (DX ‹_›).sk).KS.J9 (by have:=p1.nm2; omega)) Z fun aP aQ aR aS w Z=>.r [4]<|.go 8<|GE.An (hs:=by (simp only [List.nil_append,List.length_nil,List.length_append,List.length_cons] <;> exact (by have:=p0.nl; omega))) (hf:=.inr BB) 0 7 ([]:List Int) d.list [2,3] Z fun aT aU w Z=>.go 12<|GE.Ap (hs:=by (simp only [List.nil_append,List.length_nil,List.length_append,List.length_cons] <;> exact (by have:=p0.nl; omega))) 0 1 ([]++d.list) d.next [] [1,2] Z fun aV aW w Z=>.go 16<|GE.CO 0 (fun w Z=>Af s.idx.names (Z.a 5) (by have:=p1.ix.g.len; omega) (by (intro n hn; have:=(p1.ix.g.sz n hn).1; omega))) Z fun aX aY w Z=>.r [17]<|GA.Do Z fun w Z=>RG.Nl 0 ([(⟨1,d.next,(⟨(Ak s.mem).ids,(Ak s.mem).blocks⟩:Prt),([]:List Int),([]:List (List Tag))⟩:Stp),(⟨2,0,(⟨([]:List Int),([]:List (List Row))⟩:Prt),(([]++d.list)++[d.next]),s.idx.names⟩:Stp)]:List Stp) [[6,7,5,4],[1,0,3,2]] ((((((Z.nl Int).nl (List Tag)).sl 1).sl 0).nl Int).nl (List Row)) fun aZ w Z=>.r 1<|.d<|T.Rt func63 results63 ⟨Z.rM 0 ([(⟨1,d.next,(⟨(Ak s.mem).ids,(Ak s.mem).blocks⟩:Prt),([]:List Int),([]:List (List Tag))⟩:Stp),(⟨2,0,(⟨([]:List Int),([]:List (List Row))⟩:Prt),(([]++d.list)++[d.next]),s.idx.names⟩:Stp)]:List Stp) (by exact P1 ‹_› ‹_› ‹_› ‹_› p0),Z.xt⟩
 exact .r 1<|.d<|.ct<|.s<|.g<|RG.N0 Stp 0 Z fun ba w Z=>.r 1<|.d<|T.Rt func63 results63 ⟨Z.rM 0 ([]:List Stp) (by exact Yt (.inr (.inr ‹_›))),Z.xt⟩
end Go.Proofs.YtckdhcbbgmiccaaGreatDoor
namespace Go.Proofs.YtckdhcbbgmiccaaGreatDoor
section
variable {α:Type} [Rep α] {w:World} {G F:Nat→Prop} {M ML M2:List Nat} {o:Option Addr} {n c r s b x:Nat} {t:TypeId} {xs:List α}
theorem RepS.Jh (h:RepS w (nin F M) o n c xs):RepS w (nin (fo F s) M) o n c xs:=h.Bx fun _ _ hF=>⟨.inl hF.1,hF.2⟩
theorem RepS.toM (h:RepS w (nin G M) o n c xs) (hs:∀ b∈ML,b∈M):RepS w (nin (nin G M) ML) o n c xs:=h.Bx fun k _ hk=>⟨hk,fun e=>hk.2 (hs k e)⟩
theorem Own.toM (h:Own w r t (nin G M) n c xs) (hs:∀ b∈ML,b∈M):Own w r t (nin (nin G M) ML) n c xs:=h.Bx fun k _ hk=>⟨hk,fun e=>hk.2 (hs k e)⟩
theorem Cov.mkI {L:List Nat}(h:b∈L):Cov (ins L) w b:=⟨.inl h⟩
theorem Kb (h:Cov (ins [b,r]) w x) (hn:Nb x b):OrB x r w.heap.size:=by
 rcases h.or with h | h
 ·have h2:x∈[b,r]:=h
  rcases List.mem_cons.1 h2 with rfl | h2
  ·exact absurd rfl hn.ne
  ·simp at h2
   exact .inl h2
 ·exact .inr h
theorem U5 {k:Nat}(h:nin (fo (nin G M) s) ML k) (hM:∀ b∈M,b< s) (hG:∀ b,s≤b→G b) (h2:∀ b∈M2,b∈ML∨b∈M):nin G M2 k:=by
 refine ⟨?_,fun hm=>?_⟩
 ·rcases h.1 with h1 | h1
  ·exact h1.1
  ·exact hG _ h1
 ·rcases h2 k hm with h3 | h3
  ·exact h.2 h3
  ·rcases h.1 with h1 | h1
   ·exact h1.2 h3
   ·have:=hM k h3; omega
theorem RepS.bxM (h:RepS w (nin (fo (nin G M) s) ML) o n c xs) (hM:∀ b∈M,b< s) (hG:∀ b,s≤b→G b) (h2:∀ b∈M2,b∈ML∨b∈M):RepS w (nin G M2) o n c xs:=h.Bx fun _ _ hk=>U5 hk hM hG h2
theorem Own.bxM (h:Own w r t (nin (fo (nin G M) s) ML) n c xs) (hM:∀ b∈M,b< s) (hG:∀ b,s≤b→G b) (h2:∀ b∈M2,b∈ML∨b∈M):Own w r t (nin G M2) n c xs:=h.Bx fun _ _ hk=>U5 hk hM hG h2
end
theorem Own.oX {w:World}{r:Nat}{t:TypeId}{F:Nat→Prop}{n c i:Nat}{xs:List Fil}{cs:List Value}(h:Own w r t F n c xs) (hB:Box w r t cs):∀ v,i+(n - i)≤n→v∈(cs.drop (i * 3)).take ((n - i) * 3)→Go.Proofs.YtckdhcbbgmiccaaGreatDoor.Dq v=true:=by
 intro v hin hv
 obtain ⟨k,hk⟩:=List.mem_iff_getElem?.1 hv
 rw [List.getElem?_take] at hk
 split at hk
 ·rename_i hlt
  rw [List.getElem?_drop] at hk
  have hn:=h.len
  have hj:i+k / 3< xs.length:=by omega
  obtain ⟨c1,g1,g2⟩:=h.elem (i+k / 3) xs[i+k / 3] (AU hj)
  have hl:c1.length=3:=Rep.len g1
  have hk2:k % 3< c1.length:=by omega
  have h3:=g2 (k % 3) c1[k % 3] (AU hk2)
  have hz:Rep.sz Fil=3:=rfl
  unfold Box at hB
  rw [add_lit,hz] at h3
  simp only [World.cell?,hB] at h3
  have e:(i+k / 3) * 3+k % 3=i * 3+k:=by omega
  rw [e] at h3
  have h4:cs[i * 3+k]? = some c1[k % 3]:=by simpa using h3
  rw [hk] at h4
  cases h4
  exact Rep.flat g1 _ (List.getElem_mem hk2)
 ·cases hk
theorem U6 {P:Program}{T ty t:TypeId}{sz:Nat}{w:World}{r o c m:Nat}{cs:List Value}(hT:W4 P T t sz=true) (hB:Box w r t cs) (hm:0< m) (hfit:o+m * sz≤cs.length) :
 ∃ vs w',(Builtin.clear_ #[T] ty #[.slice (some ⟨r,o,none⟩) m c]).run P w=.ok (.tuple #[]) w'∧vs.length=m * sz∧Box w' r t (BH cs o vs)∧Chg (one r) w w':=by
 unfold W4 at hT
 simp only [AW] at hT
 obtain ⟨h1,h2⟩:=hT
 split at h1
 ·rename_i e he
  have:=Nat.eq_of_beq_eq_true h1
  subst this
  split at h2
  ·rename_i inf hinf
   split at h2
   ·rename_i z hz
    simp only [AW,List.all_eq_true] at h2
    have hsz:=Nat.eq_of_beq_eq_true h2.1
    have hl:(Builtin.zeroCells z.cells m).toList.length=m * sz:=by rw [Array.length_toList,size_zeroCells,hsz]
    have ho:∀ v∈(Builtin.zeroCells z.cells m).toList,Dq v=true:=fun v hv=>by
     unfold Builtin.zeroCells at hv
     simp only [Array.toList_map,List.mem_map,Array.toList_range,List.mem_range] at hv
     obtain ⟨k,hk,rfl⟩:=hv
     have hk2:k % z.cells.size< z.cells.size:=Nat.mod_lt _ (Nat.pos_of_ne_zero (fun e=>by rw [e,Nat.mul_zero] at hk; omega))
     refine h2.2 _ ?_
     rw [getElem!_pos z.cells _ hk2]
     exact Array.getElem_mem_toList hk2
    obtain ⟨w',g1,g2,g3,_⟩:=hB.OH (P:=P) (Builtin.zeroCells z.cells m).toList (o:=o) (i:=0) AB ho
    refine ⟨_,w',?_,hl,g2,g3⟩
    have hv:(zeroValue e).run P w=.ok z w:=by simp [zeroValue,typeInfo,hinf,hz,go_sem]
    unfold Builtin.clear_
    simp only [List.getElem?_toArray,List.getElem?_cons_zero]
    rw [AX (run_underlying he w)]
    obtain ⟨m',rfl⟩:∃ k,m=k+1:=⟨m - 1,by omega⟩
    simp only []
    rw [AX hv,AX g1]
    rfl
   ·cases h2
  ·cases h2
 ·cases h1
theorem Own.Yu {α:Type}[Rep α] {w w':World}{r:Nat}{t:TypeId}{F:Nat→Prop}{n c i:Nat}{xs:List α}{cs cs':List Value}(h:Own w r t F n c xs) (hx:Chg (one r) w w') (hB:Box w r t cs) (hB':Box w' r t cs') (hl:cs'.length=c * Rep.sz α) (hi:i≤n)
 (hp:∀ p,p< i * Rep.sz α→cs'[p]? = cs[p]?):Own w' r t F i c (xs.take i):=by
 have hn:=h.len
 have hle:=h.le
 have hcap:=h.cap
 unfold Box at hB hB'
 refine ⟨by rw [List.length_take]; omega,by omega,hcap,⟨cs'.toArray,hB',by simpa using hl⟩,fun k x hk=>?_⟩
 have hfr:∀ b,b< w.heap.size→F b∧b≠r→(F b∧b≠r)∧w'.heap[b]? = w.heap[b]? := fun b hb hF=>⟨hF,hx.block b hb (fun e=>hF.2 e)⟩
 rw [List.getElem?_take] at hk
 split at hk
 ·rename_i hki
  obtain ⟨c1,g1,g2⟩:=h.elem k x hk
  refine ⟨c1,Rep.frame g1 hfr,fun u v hv=>?_⟩
  have h3:=g2 u v hv
  have hu:u< Rep.sz α:=by have:=(List.getElem?_eq_some_iff.1 hv).1; rw [Rep.len g1] at this; exact this
  have hm:k * Rep.sz α+Rep.sz α≤i * Rep.sz α:=by rw [← Nat.succ_mul]; exact Nat.mul_le_mul_right _ hki
  rw [add_lit] at h3 ⊢
  simp only [World.cell?,hB] at h3
  simp only [World.cell?,hB']
  have:=hp (k * Rep.sz α+u) AB
  simpa [this] using h3
 ·cases hk
theorem TO {cs v:List Value}{i p:Nat}(hp:p< i) (hi:i≤cs.length):(BH cs i v)[p]? = cs[p]? := by
 unfold BH
 rw [List.append_assoc,List.getElem?_append_left (by rw [List.length_take]; omega),List.getElem?_take,if_pos hp]
end Go.Proofs.YtckdhcbbgmiccaaGreatDoor
namespace Go.Proofs.YtckdhcbbgmiccaaGreatDoor
def Z4:Dsk:=⟨[],[],[],0⟩
def Ao (d:Dsk) (st:List Stp) (c:Int):Dsk:=if BE d=true∧0≤c∧BE (toD d st c)=true then toD d st c else Z4
def Ca (d:Dsk):Dsk:=if BE d then BR d else Z4
def Ah (d:Dsk) (a:Int):List Stp:=if BE d then Aq d a else []
theorem Ea {d:Dsk}{a:Int}(h:BE d=true):Ah d a=Aq d a:=by unfold Ah; rw [if_pos h]
theorem P2 {d:Dsk}{a:Int}(h:BE d=false):Ah d a=[]:=by unfold Ah; rw [if_neg (by simp [h])]
structure StW (d:Dsk) (st:List Stp):Prop where
 len:st.length≤4
 sz:∀ x∈st,Kt x
 pt:∀ x∈st,C9 x.part
 ok:∀ k:Nat,DD ((st.take k).foldl doD d)
theorem DD.step1 {d:Dsk}(h:DD d){x:Stp}(hk:x.kind=1) (hf:d.files.length< 20) (hn:0≤x.num∧x.num≤998) (hp:PrtI x.part):DD (doD d x):=by
 rw [Fa hk]
 refine ⟨h.g,h.nl,by simp; omega,fun f hf=>?_,by show 0≤x.num+1∧x.num+1≤999; omega⟩
 rcases List.mem_append.1 hf with hf | hf
 ·exact h.file f hf
 ·simp at hf; subst hf; exact hp
theorem DD.step2 {d:Dsk}(h:DD d){x:Stp}(hk:x.kind=2) (hl:x.list.length≤7) (hn:NmG x.names):DD (doD d x):=by
 rw [HY hk]
 exact ⟨hn,hl,h.nf,h.file,h.next⟩
theorem Hl {d:Dsk}{n:Int}:∀ f∈EH d n,f∈d.files:=fun f hf=>by
 unfold EH at hf
 split at hf
 ·rcases List.mem_append.1 hf with hf | hf
  ·exact List.mem_of_mem_take hf
  ·exact List.mem_of_mem_drop hf
 ·exact hf
theorem Md {d:Dsk}{n:Int}:(EH d n).length≤d.files.length:=by
 unfold EH
 split
 ·rw [List.length_append,List.length_take,List.length_drop]; omega
 ·exact Nat.le_refl _
theorem DD.Z5 {d:Dsk}(h:DD d){x:Stp}(hk:x.kind=3):DD (doD d x):=by
 rw [F3 hk]
 exact ⟨h.g,h.nl,Nat.le_trans Md h.nf,fun f hf=>h.file f (Hl f hf),h.next⟩
theorem U7 {d:Dsk}{x:Stp}{xs:List Stp}(h0:DD d) (h:∀ k:Nat,DD ((xs.take k).foldl doD (doD d x))):∀ k:Nat,DD (((x::xs).take k).foldl doD d):=by
 intro k
 cases k with
 | zero=>exact h0
 | succ k=>exact h k
theorem U8 {d:Dsk}(h0:DD d):∀ k:Nat,DD ((([]:List Stp).take k).foldl doD d):=by intro k; simpa using h0
theorem StW.nil {d:Dsk}(h:DD d):StW d []:=⟨by simp,by simp,by simp,U8 h⟩
theorem Ji {x:Stp}(hl:x.list.length≤7) (hn:x.names.length≤7) (h5:∀ n∈x.names,n.length≤1000) (hx:-9000000≤x.num∧x.num≤9000000):Kt x:=⟨by omega,by omega,h5,hx.1,hx.2⟩
theorem U9 {ns:List (List Tag)}(h:NmG ns):∀ n∈ns,n.length≤1000:=fun n hn=>(h.sz n hn).1
theorem Nv:C9 ⟨[],[]⟩:=⟨rfl,by simp,by simp⟩
theorem Jj {d:Dsk}(h:DD d){l:List Int}{ns:List (List Tag)}{xs:List Stp}(hl:l.length≤7) (hn:NmG ns) (hx:∀ x∈xs,x.kind=3∧Kt x∧x.part=⟨[],[]⟩) (h3:xs.length≤2):StW d (⟨2,0,⟨[],[]⟩,l,ns⟩ :: xs):=by
 refine ⟨by simp; omega,fun x hm=>?_,fun x hm=>?_,U7 h ?_⟩
 ·rcases List.mem_cons.1 hm with rfl | hm
  ·exact Ji hl hn.len (U9 hn) AD
  ·exact (hx x hm).2.1
 ·rcases List.mem_cons.1 hm with rfl | hm
  ·exact Nv
  ·rw [(hx x hm).2.2]; exact Nv
 ·have key:∀ (xs:List Stp) (d:Dsk),DD d→(∀ x∈xs,x.kind=3)→∀ k:Nat,DD ((xs.take k).foldl doD d):=by
   intro xs
   induction xs with
   | nil=>intro d h _; exact U8 h
   | cons x xs ih=>intro d h hk; exact U7 h (ih _ (h.Z5 (hk x AD)) (fun y hy=>hk y (by simp [hy])))
  exact key xs _ (h.step2 rfl hl hn) (fun x hm=>(hx x hm).1)
theorem StW.X1 {d:Dsk}(h:DD d){n:Int}{p:Prt}{xs:List Stp}(hf:d.files.length< 20) (hn:0≤n∧n≤998) (hp:PrtI p) (h3:xs.length≤3) (hx:StW (doD d ⟨1,n,p,[],[]⟩) xs):StW d (⟨1,n,p,[],[]⟩ :: xs):=by
 refine ⟨by simp; omega,fun x hm=>?_,fun x hm=>?_,U7 h hx.ok⟩
 ·rcases List.mem_cons.1 hm with rfl | hm
  ·exact Ji AD AD AD (by show -9000000≤n∧n≤9000000; omega)
  ·exact hx.sz x hm
 ·rcases List.mem_cons.1 hm with rfl | hm
  ·exact hp.sz
  ·exact hx.pt x hm
theorem X2 {s:Sto}(h:SD s):NmG s.idx.names:=NmG.of h.nm h.nd
theorem Nw {s:Sto}(h:StoK s):PrtI (Ak s.mem):=PrtI.mem h.row
theorem Kc {d:Dsk}{s:Sto}(h:DD d) (hs:SD s):StW d (Ag d s)∧StW d (((Ag d s).take (Ag d s).length).drop 1):=by
 rw [List.take_length]
 unfold Ag
 split
 ·rename_i hf
  have q:=DX hf
  have hk:=DJ q.dk
  by_cases hc:s.mem.length=0∨d.list.length≥6∨d.next≥999∨d.files.length≥20
  ·have e:BD d s=[]:=by unfold BD; rw [if_pos hc]
   rw [e]; exact ⟨StW.nil h,StW.nil h⟩
  ·have e:=Dd (d:=d) (s:=s) AB AB AB AB
   rw [e]
   have hn:=h.next
   have h1:=Jj (l:=d.list++[d.next]) (xs:=[]) h (by simp; omega) (X2 hs) AD AD
   have h2:DD (doD d ⟨1,d.next,Ak s.mem,[],[]⟩):=h.step1 rfl AB (by show 0≤d.next∧d.next≤998; omega) (Nw (StoK.of hs q.sk))
   exact ⟨StW.X1 h AB AB (Nw (StoK.of hs q.sk)) AD (Jj h2 (by simp; omega) (X2 hs) AD AD),h1⟩
 ·exact ⟨StW.nil h,StW.nil h⟩
theorem Kd {d:Dsk}(h:DD d) (a:Int):StW d (Ah d a)∧StW d (((Ah d a).take (Ah d a).length).drop 1):=by
 rw [List.take_length]
 unfold Ah
 split
 ·rename_i hk0
  have hk:=DJ hk0
  have hdi:=h.di hk0
  unfold Aq
  split
  ·exact ⟨StW.nil h,StW.nil h⟩
  ·rename_i h1
   simp only [Bool.or_eq_true,not_or,Bool.not_eq_true,Bool.not_eq_false',decide_eq_true_eq] at h1
   obtain ⟨⟨h1,h3⟩,h4⟩:=h1
   have h0:=Bd (by simpa using h1)
   have hl:a.toNat+1< d.list.length:=by omega
   have ha:d.list.getD a.toNat 0∈d.list:=by rw [List.getD_eq_getElem?_getD,AU AB]; exact List.getElem_mem _
   have hb:d.list.getD (a.toNat+1) 0∈d.list:=by rw [List.getD_eq_getElem?_getD,AU hl]; exact List.getElem_mem _
   have na:=hdi.num _ ha
   have nb:=hdi.num _ hb
   have hn:=h.next
   generalize d.list.getD a.toNat 0=x at *
   generalize d.list.getD (a.toNat+1) 0=y at *
   have hp:PrtI (BJ (BA d x) (BA d y)):=(h.part x).merge (h.part y)
   have hlen:(d.list.take a.toNat++[d.next]++d.list.drop (a.toNat+2)).length≤7:=by
    simp only [List.length_append,List.length_take,List.length_drop,List.length_cons,List.length_nil]; omega
   have hg:∀ z∈[(⟨3,x,⟨[],[]⟩,[],[]⟩:Stp),⟨3,y,⟨[],[]⟩,[],[]⟩],z.kind=3∧Kt z∧z.part=⟨[],[]⟩:=fun z hz=>by
    simp only [List.mem_cons,List.not_mem_nil,or_false] at hz
    rcases hz with rfl | rfl
    ·exact ⟨rfl,Ji AD AD AD (by show -9000000≤x∧x≤9000000; omega),rfl⟩
    ·exact ⟨rfl,Ji AD AD AD (by show -9000000≤y∧y≤9000000; omega),rfl⟩
   have h2:DD (doD d ⟨1,d.next,BJ (BA d x) (BA d y),[],[]⟩):=h.step1 rfl AB (by show 0≤d.next∧d.next≤998; omega) hp
   exact ⟨StW.X1 h AB AB hp AD (Jj h2 hlen h.g hg AD),Jj h hlen h.g hg AD⟩
 ·exact ⟨StW.nil h,StW.nil h⟩
theorem XC {l:List Stp}{i:Nat}{d:Dsk}{q:Stp}{Y:Dsk}(h:(l.drop i).foldl doD d=Y) (hd:l.drop i=q::l.drop (i+1)):(l.drop (i+1)).foldl doD (doD d q)=Y:=by
 rw [hd] at h
 exact h
theorem Q6 {l:List Stp}{i:Nat}{d:Dsk}{Y:Dsk}(h:(l.drop i).foldl doD d=Y) (hi:l.length≤i):d=Y:=by
 rw [Ac hi] at h
 exact h
theorem Yv {d:Dsk}{st:List Stp}{c:Int}(hc:¬ c< 0):((st.take (if (st.length:Int)< c then (st.length:Int) else c).toNat).drop 0).foldl doD d=toD d st c:=by
 unfold toD
 rw [List.drop_zero]
 split
 ·rw [show ((st.length:Int)).toNat=st.length by omega,List.take_length,List.take_of_length_le AB]
 ·rfl
theorem Ke {l:List Stp}{i:Nat}{x d:Dsk}{st:List Stp}{c:Int}(h:(l.drop i).foldl doD x=toD d st c) (hi:l.length≤i) (hw:StW d st):DD x:=by
 rw [Q6 h hi]
 exact hw.ok c.toNat
theorem VA {d:Dsk}(x:Stp):(doD d x).files.length≤d.files.length+1:=by
 unfold doD
 split
 ·simp
 ·split
  ·simp
  ·split
   ·have:=Md (d:=d) (n:=x.num); simp only; omega
   ·omega
theorem Z6 {st:List Stp}{c:Int}{k:Nat}{x:Stp}(h:((st.take (if (st.length:Int)< c then (st.length:Int) else c).toNat).drop 0)[k]? = some x):k< st.length:=by
 have:=(List.getElem?_eq_some_iff.1 h).1
 rw [List.length_drop,List.length_take] at this
 omega
theorem Yw {d:Dsk}(h:DD d):d.files.length≤1000:=by have:=h.nf; omega
theorem Yx {d:Dsk}(h:DD d):∀ f∈d.files,C9 f.part:=fun f hf=>(h.file f hf).sz
theorem Yy {d:Dsk}(h:DD d):d.list.length≤1000:=by have:=h.nl; omega
theorem Yz {d:Dsk}(h:DD d):d.names.length≤1000:=by have:=h.g.len; omega
theorem Y0 {d:Dsk}(h:DD d):∀ n∈d.names,n.length≤1000:=U9 h.g
theorem VB {d:Dsk}{st:List Stp}{c:Int}(h:BE d=false∨c< 0∨BE (toD d st c)=false):(⟨[],[],[],0⟩:Dsk)=Ao d st c:=by
 unfold Ao
 rw [if_neg]
 ·rfl
 ·rintro ⟨h1,h2,h3⟩
  rcases h with h | h | h
  ·rw [h] at h1; cases h1
  ·omega
  ·rw [h] at h3; cases h3
theorem X3 {d:Dsk}{st:List Stp}{c:Int}(h:BE d=true) (h1:¬ c< 0) (h2:BE (toD d st c)=true):Ao d st c=toD d st c:=by
 unfold Ao
 rw [if_pos ⟨h,by omega,h2⟩]
theorem XD {l:List Stp}{i:Nat}{x d:Dsk}{st:List Stp}{c:Int}(h:(l.drop i).foldl doD x=toD d st c) (hi:l.length≤i) (h2:BE x=false):(⟨[],[],[],0⟩:Dsk)=Ao d st c:=by
 rw [Q6 h hi] at h2
 exact VB (.inr (.inr h2))
theorem XE {l:List Stp}{i:Nat}{x d:Dsk}{st:List Stp}{c:Int}(h:(l.drop i).foldl doD x=toD d st c) (hi:l.length≤i) (h0:BE d=true) (h1:¬ c< 0) (h2:BE x=true):x=Ao d st c:=by
 rw [Q6 h hi] at h2 ⊢
 exact (X3 h0 h1 h2).symm
theorem Y1 {d:Dsk}{st:List Stp}(c:Int) (h:StW d st):DD (toD d st c):=h.ok c.toNat
theorem DD.tidy {d:Dsk}(h:DD d):DD (BR d):=⟨h.g,h.nl,Nat.le_trans (List.length_filter_le _ _) h.nf,fun f hf=>h.file f (List.mem_filter.1 hf).1,h.next⟩
theorem XF {d:Dsk}(h:BE d=false):(⟨[],[],[],0⟩:Dsk)=Ca d:=by unfold Ca; rw [if_neg (by simp [h])]; rfl
theorem Ll {d:Dsk}(h:BE d=true):Ca d=BR d:=by unfold Ca; rw [if_pos h]
theorem C6 {l:List Fil}{i:Nat}{k:List Fil}{q:Fil}(h:k++l.drop i=l) (hd:l.drop i=q::l.drop (i+1)):(k++[q])++l.drop (i+1)=l:=by
 rw [hd] at h
 simpa using h
theorem Cb {α:Type}{l:List α}{i:Nat}{k:List α}(h:k++l.drop i=l) (hi:l.length≤i):k=l:=by
 rw [Ac hi] at h
 simpa using h
theorem X4 {d:Dsk}{a:Int}(h:BE d=true) (h1:inR a 0 ((d.list.length:Int) - 2)=false∨FG d=true):[]=Ah d a:=by
 rw [Ea h,JI]
 rcases h1 with h1 | h1
 ·exact .inl h1
 ·rcases SA h1 with h1 | h1
  ·exact .inr (.inl AB)
  ·exact .inr (.inr AB)
theorem Nx {d:Dsk}{n:Int}(hn:n∈d.list):BA d n∈(At d).parts:=by
 show _∈d.list.map (BA d)
 exact List.mem_map.2 ⟨n,hn,rfl⟩
theorem VC {d:Dsk}{at_ a b:Int}{f g:Fil}(hd:DD d) (h:BE d=true) (h1:inR at_ 0 ((d.list.length:Int) - 2)=true) (h2:FG d=false) (ha:d.list[at_.toNat]? = some a) (hb:d.list[(at_+1).toNat]? = some b) (hf:d.files[(Aw d a).toNat]? = some f) (hg:d.files[(Aw d b).toNat]? = some g) :
 [⟨1,d.next,(CN f.part g.part).1,[],[]⟩,⟨2,0,⟨[],[]⟩,(([]++(d.list.take at_.toNat).drop 0)++[d.next])++(d.list.take d.list.length).drop (at_+2).toNat,d.names⟩,⟨3,a,⟨[],[]⟩,[],[]⟩,⟨3,b,⟨[],[]⟩,[],[]⟩]=Ah d at_:=by
 have hx:=R9 h2
 have hk:=DJ h
 have:=hd.nf
 have hs:=hd.sd h
 have hso:=(Gl h).2.1
 have e:=MY hs hso (Nx (AV ha)) (Nx (AV hb))
 rw [FP hf,FP hg] at e
 rw [e,Ea h,Eo h1 AB AB ha hb hf hg]
end Go.Proofs.YtckdhcbbgmiccaaGreatDoor
namespace Go.Proofs.YtckdhcbbgmiccaaGreatDoor
def Dz (l:List Int):Nat→List Fil→Int
 | _,[]=>-1
 | i,f::fs=>if l.contains f.num then Dz l (i+1) fs else i
theorem Y2 {l:List Int}{s:List Fil}{k:Nat}{f:Fil}(h:Dz l k (s.drop k)=Dz l 0 s) (hd:s.drop k=f::s.drop (k+1)) (hc:(!(l.contains f.num))=false):Dz l (k+1) (s.drop (k+1))=Dz l 0 s:=by
 rw [← h,hd]
 show _=if l.contains f.num then Dz l (k+1) (s.drop (k+1)) else (k:Int)
 rw [if_pos (by simpa using hc)]
theorem VD {l:List Int}{s:List Fil}{k:Nat}{f:Fil}(h:Dz l k (s.drop k)=Dz l 0 s) (hd:s.drop k=f::s.drop (k+1)) (hc:(!(l.contains f.num))=true):(k:Int)=Dz l 0 s:=by
 rw [← h,hd]
 show _=if l.contains f.num then Dz l (k+1) (s.drop (k+1)) else (k:Int)
 rw [if_neg (by simpa using hc)]
theorem VE {l:List Int}{s:List Fil}{k:Nat}(h:Dz l k (s.drop k)=Dz l 0 s) (hk:s.length≤k):(-1:Int)=Dz l 0 s:=by
 rw [Ac hk] at h
 exact h
theorem IA (l:List Int):∀ (s:List Fil) (i:Nat),(Dz l i s = -1∧s.filter (fun f=>l.contains f.num)=s)∨∃ k:Nat,Dz l i s=(i+k:Nat)∧k< s.length∧s.take k=(s.take (k+1)).filter (fun f=>l.contains f.num):=by
 intro s
 induction s with
 | nil=>intro i; exact .inl ⟨rfl,rfl⟩
 | cons f fs ih =>
   intro i
   unfold Dz
   by_cases hc:l.contains f.num=true
   ·rw [if_pos hc]
    rcases ih (i+1) with ⟨h1,h2⟩ | ⟨k,h1,h2,h3⟩
    ·left
     refine ⟨h1,?_⟩
     rw [List.filter_cons,if_pos hc,h2]
    ·right
     refine ⟨k+1,by rw [h1]; omega,by simp; omega,?_⟩
     rw [List.take_succ_cons,List.take_succ_cons,List.filter_cons,if_pos hc,← h3]
   ·rw [if_neg hc]
    right
    refine ⟨0,by simp,by simp,?_⟩
    simp only [List.take_zero,Nat.zero_add,List.take_succ_cons]
    rw [List.filter_cons,if_neg hc]
    rfl
theorem SB {l:List Int}{s:List Fil}(h:¬ Dz l 0 s = -1):0≤Dz l 0 s:=by
 rcases IA l s 0 with ⟨h1,_⟩ | ⟨k,h1,_⟩
 ·exact absurd h1 h
 ·omega
theorem SC (l:List Int) (s:List Fil):Dz l 0 s< s.length∨s.length=0∧Dz l 0 s = -1:=by
 rcases IA l s 0 with ⟨h1,_⟩ | ⟨k,h1,h2,_⟩
 ·by_cases e:s.length=0
  ·exact .inr ⟨e,h1⟩
  ·exact .inl AB
 ·exact .inl AB
theorem TP {l:List Int}{s:List Fil}(h:¬ Dz l 0 s = -1):s.take (Dz l 0 s).toNat=(s.take (Dz l 0 s+1).toNat).filter (fun f=>l.contains f.num):=by
 rcases IA l s 0 with ⟨h1,_⟩ | ⟨k,h1,h2,h3⟩
 ·exact absurd h1 h
 ·rw [h1,show (((0+k:Nat):Int)).toNat=k by omega,show (((0+k:Nat):Int)+1).toNat=k+1 by omega]
  exact h3
theorem XG {l:List Int}{s:List Fil}(h:Dz l 0 s = -1):s=s.filter (fun f=>l.contains f.num):=by
 rcases IA l s 0 with ⟨_,h1⟩ | ⟨k,h1,h2,h3⟩
 ·exact h1.symm
 ·omega
theorem K0 {α:Type}{a b:List α}{j:Nat}{x:α}(h:a.drop j=b.drop j) (hx:a[j]? = some x):b[j]? = some x:=by
 have h1:(a.drop j)[0]? = (b.drop j)[0]? := by rw [h]
 rw [List.getElem?_drop,List.getElem?_drop,Nat.add_zero] at h1
 rw [← h1]; exact hx
theorem Ny {α:Type}{b:List α}{j:Int}{x:α}(hj:0≤j) (hx:b[j.toNat]? = some x):b.take (j+1).toNat=b.take j.toNat++[x]:=by
 rw [show (j+1).toNat=j.toNat+1 by omega,List.take_add_one,hx]
 rfl
theorem VF {l:List Int}{xs xs0:List Fil}{i j:Int}{v:Fil}(h:xs.take i.toNat=(xs0.take j.toNat).filter (fun f=>l.contains f.num)) (h2:xs.drop j.toNat=xs0.drop j.toNat) (hv:xs[j.toNat]? = some v) (hi:0≤i) (hij:i< j) (hl:j< xs.length) (hc:(!(l.contains v.num))=false):(xs.set i.toNat v).take (i+1).toNat=(xs0.take (j+1).toNat).filter (fun f=>l.contains f.num):=by
 have h0:=K0 h2 hv
 rw [Ny AB h0,List.filter_append,← h,List.filter_cons,if_pos (by simpa using hc),show (i+1).toNat=i.toNat+1 by omega,List.take_add_one,List.take_set_of_le (Nat.le_refl _),List.getElem?_set_self AB]
 rfl
theorem VG {l:List Int}{xs xs0:List Fil}{i j:Int}{v:Fil}(h:xs.take i.toNat=(xs0.take j.toNat).filter (fun f=>l.contains f.num)) (h2:xs.drop j.toNat=xs0.drop j.toNat) (hv:xs[j.toNat]? = some v) (hj:0≤j) (hc:(!(l.contains v.num))=true):xs.take i.toNat=(xs0.take (j+1).toNat).filter (fun f=>l.contains f.num):=by
 have h0:=K0 h2 hv
 rw [Ny hj h0,List.filter_append,← h,List.filter_cons,if_neg (by simpa using hc)]
 simp
theorem TQ {xs xs0:List Fil}{i j:Int}{v:Fil}(h2:xs.drop j.toNat=xs0.drop j.toNat) (hi:0≤i) (hij:i< j) (_hj:0≤j):(xs.set i.toNat v).drop (j+1).toNat=xs0.drop (j+1).toNat:=by
 rw [List.drop_set_of_lt AB,show (j+1).toNat=j.toNat+1 by omega,← List.drop_drop,← List.drop_drop,h2]
theorem VH {xs xs0:List Fil}{j:Int}(h2:xs.drop j.toNat=xs0.drop j.toNat) (hj:0≤j):xs.drop (j+1).toNat=xs0.drop (j+1).toNat:=by
 rw [show (j+1).toNat=j.toNat+1 by omega,← List.drop_drop,← List.drop_drop,h2]
theorem XH {l:List Int}{xs xs0:List Fil}{i j:Int}(h:xs.take i.toNat=(xs0.take j.toNat).filter (fun f=>l.contains f.num)) (h2:xs.drop j.toNat=xs0.drop j.toNat) (hj:(xs.length:Int)≤j) (hij:0≤j):xs.take i.toNat=xs0.filter (fun f=>l.contains f.num):=by
 rw [h]
 congr 1
 have h3:xs0.drop j.toNat=[]:=by rw [← h2]; exact List.drop_of_length_le AB
 rw [List.drop_eq_nil_iff] at h3
 exact List.take_of_length_le h3
end Go.Proofs.YtckdhcbbgmiccaaGreatDoor
namespace Go.Proofs.YtckdhcbbgmiccaaGreatDoor
theorem SE:∀ (fs:List Fil) (n:Int) (i:Nat),0≤DY n i fs→∃ f,fs[(DY n i fs).toNat - i]? = some f∧f.num=n∧i≤(DY n i fs).toNat:=by
 intro fs
 induction fs with
 | nil=>intro n i h; exact absurd h (by unfold DY; omega)
 | cons x xs ih =>
   intro n i h
   unfold DY at h ⊢
   split at h
   ·next e =>
    rw [if_pos e]
    exact ⟨x,by simp,by simpa using e,by simp⟩
   ·next e =>
    rw [if_neg e]
    obtain ⟨f,h1,h2,h3⟩:=ih n (i+1) h
    refine ⟨f,?_,h2,by omega⟩
    rw [show (DY n (i+1) xs).toNat - i=((DY n (i+1) xs).toNat - (i+1))+1 by omega,List.getElem?_cons_succ]
    exact h1
end Go.Proofs.YtckdhcbbgmiccaaGreatDoor
namespace Go.Proofs.YtckdhcbbgmiccaaGreatDoor
theorem Nz (nx:Int):∀ (fs:List Fil) (o:Option Int),Dy nx o fs=true↔(∀ f∈fs,1≤f.num∧f.num≤nx - 1∧Ay f.part=true)∧fs.Pairwise (fun a b=>a.num< b.num)∧∀ q,o=some q→∀ f∈fs,q< f.num:=by
 intro fs
 induction fs with
 | nil=>intro o; simp [Dy]
 | cons x xs ih =>
   intro o
   unfold Dy
   simp only [AW]
   rw [ih]
   constructor
   ·rintro ⟨⟨⟨h1,h2⟩,h3⟩,h4,h5,h6⟩
    have h1:=Bd h1
    refine ⟨fun f hf=>?_,List.pairwise_cons.2 ⟨fun f hf=>h6 _ rfl f hf,h5⟩,fun q hq f hf=>?_⟩
    ·rcases List.mem_cons.1 hf with rfl | hf
     ·exact ⟨h1.1,h1.2,h3⟩
     ·exact h4 f hf
    ·subst hq
     have hx:q< x.num:=by simpa using h2
     rcases List.mem_cons.1 hf with rfl | hf
     ·exact hx
     ·have:=h6 _ rfl f hf; omega
   ·rintro ⟨h1,h2,h3⟩
    obtain ⟨h4,h5⟩:=List.pairwise_cons.1 h2
    have hx:=h1 x AD
    refine ⟨⟨⟨?_,?_⟩,hx.2.2⟩,fun f hf=>h1 f (by simp [hf]),h5,fun q hq f hf=>?_⟩
    ·unfold inR; rw [decide_eq_true hx.1,decide_eq_true hx.2.1]; rfl
    ·cases o with
     | none=>rfl
     | some q=>simpa using h3 q rfl x AD
    ·cases hq
     exact h4 f hf
theorem SF:∀ (fs:List Fil) (i:Nat) (f:Fil),fs.Pairwise (fun a b=>a.num< b.num)→f∈fs→∃ k:Nat,DY f.num i fs=((i+k:Nat):Int)∧fs[k]? = some f:=by
 intro fs
 induction fs with
 | nil=>intro i f _ hf; cases hf
 | cons x xs ih =>
   intro i f hp hf
   obtain ⟨h1,h2⟩:=List.pairwise_cons.1 hp
   unfold DY
   rcases List.mem_cons.1 hf with rfl | hf
   ·exact ⟨0,by simp,rfl⟩
   ·have:=h1 f hf
    rw [if_neg (by simp; omega)]
    obtain ⟨k,g1,g2⟩:=ih (i+1) f h2 hf
    exact ⟨k+1,by rw [g1]; omega,by rw [List.getElem?_cons_succ]; exact g2⟩
theorem E6 {d:Dsk}(hp:d.files.Pairwise (fun a b=>a.num< b.num)){f:Fil}(hf:f∈d.files):BA d f.num=f.part∧0≤Aw d f.num:=by
 obtain ⟨k,h1,h2⟩:=SF d.files 0 f hp hf
 have h3:Aw d f.num=(k:Int):=by unfold Aw; rw [h1]; simp
 refine ⟨FP (by rw [h3]; exact h2),by omega⟩
structure DskV (d:Dsk):Prop where
 next:1≤d.next∧d.next≤999
 nf:d.files.length≤20
 nl:d.list.length≤6
 file:∀ f∈d.files,1≤f.num∧f.num≤d.next - 1∧Ay f.part=true
 asc:d.files.Pairwise (fun a b=>a.num< b.num)
 at_:∀ n∈d.list,∃ f∈d.files,f.num=n
 nd:d.list.Nodup
 nm:nmB d.names=true
 so:Ab (At d)=true
theorem C7 {d:Dsk}:BE d=true↔DskV d:=by
 unfold BE
 simp only [AW,decide_eq_true_eq]
 constructor
 ·rintro ⟨⟨⟨⟨⟨h1,h2⟩,h3⟩,h4⟩,h5⟩,h6,h7⟩
  obtain ⟨g1,g2,_⟩:=(Nz _ _ _).1 h4
  unfold EJ at h5
  simp only [AW,decide_eq_true_eq,List.all_eq_true] at h5
  exact ⟨Bd h1,h2,h3,g1,g2,fun n hn=>(Fc d n).1 (h5.1 n hn),h5.2,h6,h7⟩
 ·rintro ⟨h1,h2,h3,h4,h5,h6,h7,h8,h9⟩
  refine ⟨⟨⟨⟨⟨?_,h2⟩,h3⟩,(Nz _ _ _).2 ⟨h4,h5,by simp⟩⟩,?_⟩,h8,h9⟩
  ·unfold inR; rw [decide_eq_true h1.1,decide_eq_true h1.2]; rfl
  ·unfold EJ
   simp only [AW,decide_eq_true_eq,List.all_eq_true]
   exact ⟨fun n hn=>(Fc d n).2 (h6 n hn),h7⟩
theorem DskV.lt {d:Dsk}(h:DskV d):∀ n∈d.list,1≤n∧n< d.next:=fun n hn=>by
 obtain ⟨f,hf,rfl⟩:=h.at_ n hn
 have:=h.file f hf
 omega
theorem XI {d e:Dsk}(hn:e.names=d.names) (hl:e.list=d.list) (hp:∀ n∈d.list,BA e n=BA d n):At e=At d:=by
 unfold At
 rw [hn,hl,List.map_congr_left hp]
theorem DskV.files {d:Dsk}(h:DskV d){fs:List Fil}{nx:Int}(h1:1≤nx∧nx≤999) (h2:fs.length≤20) (h3:∀ f∈fs,1≤f.num∧f.num≤nx - 1∧Ay f.part=true) (h4:fs.Pairwise (fun a b=>a.num< b.num)) (h5:∀ f∈d.files,f.num∈d.list→f∈fs) :
 DskV ⟨fs,d.list,d.names,nx⟩∧At ⟨fs,d.list,d.names,nx⟩=At d:=by
 have e:At ⟨fs,d.list,d.names,nx⟩=At d:=XI rfl rfl (fun n hn=>by
  obtain ⟨f,hf,rfl⟩:=h.at_ n hn
  rw [(E6 h.asc hf).1,(E6 (d:=⟨fs,d.list,d.names,nx⟩) h4 (h5 f hf hn)).1])
 refine ⟨⟨h1,h2,h.nl,h3,h4,fun n hn=>?_,h.nd,h.nm,by rw [e]; exact h.so⟩,e⟩
 obtain ⟨f,hf,rfl⟩:=h.at_ n hn
 exact ⟨f,h5 f hf hn,rfl⟩
theorem DskV.add {d:Dsk}(h:DskV d){p:Prt}(hp:Ay p=true) (h1:d.next< 999) (h2:d.files.length< 20):DskV ⟨d.files++[⟨d.next,p⟩],d.list,d.names,d.next+1⟩∧At ⟨d.files++[⟨d.next,p⟩],d.list,d.names,d.next+1⟩=At d:=by
 have hn:=h.next
 refine h.files AB (by simp; omega) (fun f hf=>?_) ?_ (fun f hf _=>List.mem_append.2 (.inl hf))
 ·rcases List.mem_append.1 hf with hf | hf
  ·have:=h.file f hf
   exact ⟨this.1,by omega,this.2.2⟩
  ·simp at hf
   subst hf
   exact ⟨hn.1,by simp,hp⟩
 ·rw [List.pairwise_append]
  refine ⟨h.asc,by simp,fun a ha b hb=>?_⟩
  simp at hb
  subst hb
  have:=h.file a ha
  show a.num< d.next
  omega
theorem DskV.gone {d:Dsk}(h:DskV d) (n:Int):DskV ⟨EH d n,d.list,d.names,d.next⟩∧At ⟨EH d n,d.list,d.names,d.next⟩=At d:=by
 refine h.files h.next (Nat.le_trans Md h.nf) (fun f hf=>h.file f (Hl f hf)) ?_ (fun f hf hm=>?_)
 ·refine h.asc.sublist ?_
  unfold EH
  split
  ·have e:=List.take_append_drop (Aw d n).toNat d.files
   conv=>rhs; rw [← e]
   refine List.Sublist.append (List.Sublist.refl _) ?_
   rw [← List.drop_drop]
   exact List.drop_sublist 1 _
  ·exact List.Sublist.refl _
 ·unfold EH
  split
  ·rename_i hc
   obtain ⟨k,g1,g2⟩:=SF d.files 0 f h.asc hf
   have g3:Aw d f.num=(k:Int):=by unfold Aw; rw [g1]; simp
   by_cases hk:k< (Aw d n).toNat
   ·refine List.mem_append.2 (.inl (List.mem_iff_getElem?.2 ⟨k,?_⟩))
    rw [List.getElem?_take,if_pos hk]
    exact g2
   ·by_cases hk2:k=(Aw d n).toNat
    ·obtain ⟨y,hy1,hy2,_⟩:=(fun hh=>SE d.files n 0 hh) hc.1
     have hy1':d.files[(Aw d n).toNat]? = some y:=hy1
     rw [← hk2,g2] at hy1'
     cases hy1'
     rw [hy2] at hm
     have:=hc.2
     rw [List.contains_iff_mem.2 hm] at this
     cases this
    ·refine List.mem_append.2 (.inr (List.mem_iff_getElem?.2 ⟨k - ((Aw d n).toNat+1),?_⟩))
     rw [List.getElem?_drop,show (Aw d n).toNat+1+(k - ((Aw d n).toNat+1))=k by omega]
     exact g2
  ·exact hf
theorem DskV.tidy {d:Dsk}(h:DskV d):DskV (BR d)∧At (BR d)=At d:=by
 refine h.files h.next (Nat.le_trans (List.length_filter_le _ _) h.nf) (fun f hf=>h.file f (List.mem_filter.1 hf).1) (h.asc.sublist List.filter_sublist) (fun f hf hm=>List.mem_filter.2 ⟨hf,?_⟩)
 simpa using hm
theorem DskV.VI {d:Dsk}(h:DskV d):(BR d).files.length=d.list.length:=by
 have h1:((BR d).files.map Fil.num).Nodup:=by
  unfold List.Nodup
  rw [List.pairwise_map]
  exact (h.asc.sublist List.filter_sublist).imp (fun hab=>by omega)
 have h2:∀ n∈(BR d).files.map Fil.num,n∈d.list:=fun n hn=>by
  obtain ⟨f,hf,rfl⟩:=List.mem_map.1 hn
  have:=(List.mem_filter.1 hf).2
  simpa using this
 have h3:∀ n∈d.list,n∈(BR d).files.map Fil.num:=fun n hn=>by
  obtain ⟨f,hf,rfl⟩:=h.at_ n hn
  exact List.mem_map.2 ⟨f,List.mem_filter.2 ⟨hf,by simpa using hn⟩,rfl⟩
 have a:=KQ _ _ h1 h2
 have b:=KQ _ _ h.nd h3
 rw [List.length_map] at a b
 omega
theorem N1 {d:Dsk}{st:List Stp}{c:Int}(h:c≤0):toD d st c=d:=by
 unfold toD
 rw [show c.toNat=0 by omega]
 rfl
theorem DK {d:Dsk}{x:Stp}{st:List Stp}{c:Int}(h:1≤c):toD d (x::st) c=toD (doD d x) st (c - 1):=by
 unfold toD
 rw [show c.toNat=(c - 1).toNat+1 by omega]
 rfl
theorem Lm {d:Dsk}{c:Int}:toD d [] c=d:=by
 unfold toD
 simp
theorem VJ {s:Sto}(h:s.idx=idxOf s.idx.names){ps:List Prt}{m:List Smp}:(⟨idxOf s.idx.names,ps,m⟩:Sto)=⟨s.idx,ps,m⟩:=by rw [← h]
structure FlD (d:Dsk) (s:Sto):Prop where
 v:DskV d
 sd:SD s
 k:Ab s=true
 nb:nmB s.idx.names=true
 p:s.parts=d.list.map (BA d)
 m:s.mem≠[]
 l:d.list.length< 6
 n:d.next< 999
 f:d.files.length< 20
theorem Q7 {s:Sto}(h:SD s) (hk:Ab s=true) (h1:s.mem≠[]) (h2:s.parts.length< 6):Ay (Ak s.mem)=true:=by
 have h5:=JV h hk h1 h2
 unfold Ab at h5
 simp only [AW,decide_eq_true_eq,List.all_eq_true] at h5
 exact FR (h5.1.1.2 (Ak s.mem) (by unfold DA; simp))
theorem FlD.to {d:Dsk}{s:Sto}(q:FlD d s) (c:Int):DskV (toD d (BD d s) c)∧At (toD d (BD d s) c)=if c< 2 then At d else DA s:=by
 have hpl:s.parts.length< 6:=by rw [q.p,List.length_map]; exact q.l
 have e:=Dd (d:=d) (s:=s) (by have:=q.m; rw [← List.length_pos_iff] at this; omega) (by have:=q.l; omega) (by have:=q.n; omega) (by have:=q.f; omega)
 rw [e]
 by_cases h0:c≤0
 ·rw [N1 h0,if_pos AB]
  exact ⟨q.v,rfl⟩
 ·have hp:=Q7 q.sd q.k q.m hpl
  obtain ⟨v1,o1⟩:=q.v.add hp q.n q.f
  rw [DK AB,Fa rfl]
  by_cases h1:c≤1
  ·rw [N1 AB,if_pos AB]
   exact ⟨v1,o1⟩
  ·rw [DK AB,HY rfl,Lm,if_neg AB]
   have hnew:BA ⟨d.files++[⟨d.next,Ak s.mem⟩],d.list++[d.next],s.idx.names,d.next+1⟩ d.next=Ak s.mem:=(E6 (d:=⟨d.files++[⟨d.next,Ak s.mem⟩],d.list++[d.next],s.idx.names,d.next+1⟩) v1.asc (f:=⟨d.next,Ak s.mem⟩) AD).1
   have hold:∀ n∈d.list,BA ⟨d.files++[⟨d.next,Ak s.mem⟩],d.list++[d.next],s.idx.names,d.next+1⟩ n=BA d n:=fun n hn=>by
    obtain ⟨f,hf,rfl⟩:=q.v.at_ n hn
    rw [(E6 q.v.asc hf).1,(E6 (d:=⟨d.files++[⟨d.next,Ak s.mem⟩],d.list++[d.next],s.idx.names,d.next+1⟩) v1.asc (f:=f) (List.mem_append.2 (.inl hf))).1]
   have eo:At ⟨d.files++[⟨d.next,Ak s.mem⟩],d.list++[d.next],s.idx.names,d.next+1⟩=DA s:=by
    unfold At DA
    rw [VJ q.sd.idx]
    simp only [List.map_append,List.map_cons,List.map_nil]
    rw [hnew,List.map_congr_left hold,q.p]
   refine ⟨⟨v1.next,v1.nf,by have:=q.l; simp; omega,v1.file,v1.asc,fun n hn=>?_,?_,q.nb,by rw [eo]; exact JV q.sd q.k q.m hpl⟩,eo⟩
   ·rcases List.mem_append.1 hn with hn | hn
    ·exact v1.at_ n hn
    ·simp at hn
     exact ⟨⟨d.next,Ak s.mem⟩,by simp,hn.symm⟩
   ·rw [List.nodup_append]
    refine ⟨q.v.nd,by simp,fun a ha b hb=>?_⟩
    simp at hb
    subst hb
    have:=q.v.lt a ha
    omega
theorem FlD.of {d:Dsk}{s:Sto}(hs:SD s) (h:¬ ((Ag d s).length:Int)=0):FlD d s∧Ag d s=BD d s:=by
 cases hf:C5 d s with
 | false=>rw [P0 hf] at h; exact absurd rfl h
 | true =>
   have q:=DX hf
   have e:=Fj hf
   by_cases hc:s.mem.length=0∨d.list.length≥6∨d.next≥999∨d.files.length≥20
   ·have e2:BD d s=[]:=by unfold BD; rw [if_pos hc]
    rw [e,e2] at h; exact absurd rfl h
   ·exact ⟨⟨C7.1 q.dk,hs,q.sk,q.nm,q.p,fun e2=>hc (.inl (by rw [e2]; rfl)),by omega,by omega,by omega⟩,e⟩
structure MgD (d:Dsk) (a:Nat) (x y:Int):Prop where
 v:DskV d
 dd:DD d
 l:a+2≤d.list.length
 hx:d.list[a]? = some x
 hy:d.list[a+1]? = some y
 n:d.next< 999
 f:d.files.length< 20
 e:Aq d a=[⟨1,d.next,BJ (BA d x) (BA d y),[],[]⟩,⟨2,0,⟨[],[]⟩,d.list.take a++[d.next]++d.list.drop (a+2),d.names⟩,⟨3,x,⟨[],[]⟩,[],[]⟩,⟨3,y,⟨[],[]⟩,[],[]⟩]
theorem MgD.of {d:Dsk}{i:Int}(hd:DD d) (h:¬ ((Ah d i).length:Int)=0):∃ x y,MgD d i.toNat x y∧Ah d i=Aq d i.toNat∧i=(i.toNat:Int):=by
 cases hk:BE d with
 | false=>rw [P2 hk] at h; exact absurd rfl h
 | true =>
   rw [Ea hk] at h ⊢
   by_cases hc:(!(inR i 0 ((d.list.length:Int) - 2)) || decide (d.next≥999) || decide (d.files.length≥20))=true
   ·unfold Aq at h
    rw [if_pos hc] at h
    exact absurd rfl h
   ·have hc2:=hc
    simp only [Bool.or_eq_true,not_or,Bool.not_eq_true,Bool.not_eq_false',decide_eq_true_eq] at hc2
    obtain ⟨⟨h1,h3⟩,h4⟩:=hc2
    have h0:=Bd (by simpa using h1)
    have ei:i=(i.toNat:Int):=by omega
    have hx:=AU (l:=d.list) (i:=i.toNat) AB
    have hy:=AU (l:=d.list) (i:=i.toNat+1) AB
    refine ⟨_,_,⟨C7.1 hk,hd,by omega,hx,hy,by omega,by omega,?_⟩,by rw [← ei],ei⟩
    rw [← ei]
    unfold Aq
    rw [if_neg hc]
    simp only [List.getD_eq_getElem?_getD,hx,hy,Option.getD_some]
section
variable {d:Dsk} {a:Nat} {x y:Int}
theorem MgD.list (q:MgD d a x y):d.list=d.list.take a++x::y::d.list.drop (a+2):=by
 have e:=List.take_append_drop a d.list
 rw [drop_at q.hx,drop_at q.hy] at e
 exact e.symm
theorem MgD.open (q:MgD d a x y):(At d).parts[a]? = some (BA d x)∧(At d).parts[a+1]? = some (BA d y)∧(At d).parts.length=d.list.length:=by
 unfold At
 simp only [List.getElem?_map,q.hx,q.hy,List.length_map]
 exact ⟨rfl,rfl,trivial⟩
theorem MgD.sd (q:MgD d a x y):SD (At d):=q.dd.sd (C7.2 q.v)
theorem MgD.part (q:MgD d a x y):Ay (BJ (BA d x) (BA d y))=true:=by
 have hl:a+2≤(At d).parts.length:=by rw [q.open.2.2]; exact q.l
 have h:=Gk q.sd q.v.so hl
 obtain ⟨u,w,hu,hw,e⟩:=FT hl
 rw [q.open.1] at hu
 rw [q.open.2.1] at hw
 cases hu
 cases hw
 unfold Ab at h
 simp only [AW,decide_eq_true_eq,List.all_eq_true] at h
 exact FR (h.1.1.2 _ (by rw [e]; simp))
theorem MgD.mem (q:MgD d a x y):∀ n∈d.list.take a++[d.next]++d.list.drop (a+2),n∈d.list∧n≠x∧n≠y∨n=d.next:=fun n hn=>by
 have hnd:=q.v.nd
 rw [q.list] at hnd
 rw [List.nodup_append,List.nodup_cons,List.nodup_cons] at hnd
 obtain ⟨n1,⟨n2,n3,n4⟩,n5⟩:=hnd
 rcases List.mem_append.1 hn with hn | hn
 ·rcases List.mem_append.1 hn with hn | hn
  ·exact .inl ⟨List.mem_of_mem_take hn,n5 n hn x AD,n5 n hn y AD⟩
  ·simp at hn; exact .inr hn
 ·exact .inl ⟨List.mem_of_mem_drop hn,fun e=>n2 (by rw [← e]; simp [hn]),fun e=>n3 (by rw [← e]; exact hn)⟩
def mgD (d:Dsk) (a:Nat) (x y:Int):Dsk:=⟨d.files++[⟨d.next,BJ (BA d x) (BA d y)⟩],d.list.take a++[d.next]++d.list.drop (a+2),d.names,d.next+1⟩
theorem MgD.v2 (q:MgD d a x y):DskV (mgD d a x y)∧At (mgD d a x y)=CV (At d) a:=by
 obtain ⟨v1,o1⟩:=q.v.add q.part q.n q.f
 have hnew:BA (mgD d a x y) d.next=BJ (BA d x) (BA d y):=(E6 (d:=mgD d a x y) v1.asc (f:=⟨d.next,BJ (BA d x) (BA d y)⟩) (by unfold mgD; simp)).1
 have hold:∀ n∈d.list,BA (mgD d a x y) n=BA d n:=fun n hn=>by
  obtain ⟨f,hf,rfl⟩:=q.v.at_ n hn
  rw [(E6 q.v.asc hf).1,(E6 (d:=mgD d a x y) v1.asc (f:=f) (List.mem_append.2 (.inl hf))).1]
 have hl:a+2≤(At d).parts.length:=by rw [q.open.2.2]; exact q.l
 have eo:At (mgD d a x y)=CV (At d) a:=by
  obtain ⟨u,w,hu,hw,e⟩:=FT hl
  rw [q.open.1] at hu
  rw [q.open.2.1] at hw
  cases hu
  cases hw
  have h1:(At (mgD d a x y)).parts=(CV (At d) a).parts:=by
   rw [e]
   show (d.list.take a++[d.next]++d.list.drop (a+2)).map (BA (mgD d a x y))=(d.list.map (BA d)).take a++[_]++(d.list.map (BA d)).drop (a+2)
   simp only [List.map_append,List.map_cons,List.map_nil]
   rw [hnew,List.map_congr_left (fun n hn=>hold n (List.mem_of_mem_take hn)),List.map_congr_left (l:=d.list.drop (a+2)) (fun n hn=>hold n (List.mem_of_mem_drop hn)),List.map_take,List.map_drop]
  show (⟨_,_,_⟩:Sto)=⟨_,_,_⟩
  have h2:(At (mgD d a x y)).parts=Gy (At d).parts a:=h1
  unfold At at h2 ⊢
  simp only [] at h2 ⊢
  rw [h2]
  rfl
 refine ⟨⟨v1.next,v1.nf,?_,v1.file,v1.asc,fun n hn=>?_,?_,q.v.nm,by rw [eo]; exact Gk q.sd q.v.so hl⟩,eo⟩
 ·have:=q.v.nl
  show (d.list.take a++[d.next]++d.list.drop (a+2)).length≤6
  simp only [List.length_append,List.length_take,List.length_drop,List.length_cons,List.length_nil]
  have:=q.l
  omega
 ·rcases q.mem n hn with hn | rfl
  ·exact v1.at_ n hn.1
  ·exact ⟨⟨d.next,BJ (BA d x) (BA d y)⟩,by unfold mgD; simp,rfl⟩
 ·show (d.list.take a++[d.next]++d.list.drop (a+2)).Nodup
  have hnd:=q.v.nd
  rw [q.list] at hnd
  rw [List.nodup_append,List.nodup_cons,List.nodup_cons] at hnd
  obtain ⟨n1,⟨n2,n3,n4⟩,n5⟩:=hnd
  have hlt:=q.v.lt
  rw [List.append_assoc,List.nodup_append]
  refine ⟨n1,?_,fun u hu w hw=>?_⟩
  ·rw [List.singleton_append,List.nodup_cons]
   exact ⟨fun hm=>by have:=hlt _ (List.mem_of_mem_drop hm); omega,n4⟩
  ·have hu2:=hlt u (List.mem_of_mem_take hu)
   rcases List.mem_append.1 hw with hw | hw
   ·simp at hw; omega
   ·exact n5 u hu w (by simp [hw])
theorem MgD.to (q:MgD d a x y) (c:Int):DskV (toD d (Aq d a) c)∧At (toD d (Aq d a) c)=if c< 2 then At d else CV (At d) a:=by
 rw [q.e]
 by_cases h0:c≤0
 ·rw [N1 h0,if_pos AB]
  exact ⟨q.v,rfl⟩
 ·obtain ⟨v1,o1⟩:=q.v.add q.part q.n q.f
  rw [DK AB,Fa rfl]
  by_cases h1:c≤1
  ·rw [N1 AB,if_pos AB]
   exact ⟨v1,o1⟩
  ·obtain ⟨v2,o2⟩:=q.v2
   have e2:doD (⟨d.files++[⟨d.next,BJ (BA d x) (BA d y)⟩],d.list,d.names,d.next+1⟩:Dsk) ⟨2,0,⟨[],[]⟩,d.list.take a++[d.next]++d.list.drop (a+2),d.names⟩=mgD d a x y:=HY rfl
   rw [DK AB,e2,if_neg AB]
   by_cases h2:c≤2
   ·rw [N1 AB]
    exact ⟨v2,o2⟩
   ·obtain ⟨v3,o3⟩:=v2.gone x
    rw [DK AB,F3 rfl]
    by_cases h3:c≤3
    ·rw [N1 AB]
     exact ⟨v3,o3.trans o2⟩
    ·obtain ⟨v4,o4⟩:=v3.gone y
     rw [DK AB,F3 rfl,Lm]
     exact ⟨v4,(o4.trans o3).trans o2⟩
end
end Go.Proofs.YtckdhcbbgmiccaaGreatDoor
namespace Go.Proofs.YtckdhcbbgmiccaaGreatDoor
theorem VK {d:Dsk}{st:List Stp}{c:Int}(h:DD d) (hw:BE d=true→StW d st):DD (Ao d st c):=by
 unfold Ao
 split
 ·rename_i hc
  exact Y1 c (hw hc.1)
 ·exact U2
theorem VM {d:Dsk}{st:List Stp}{c:Int}(h:BE d=true) (h1:0≤c) (h2:BE (toD d st c)=true):Ao d st c=toD d st c:=X3 h AB h2
section
variable {d:Dsk}
theorem XJ (h:DD d):DD (Ca d):=by
 unfold Ca
 split
 ·exact h.tidy
 ·exact U2
theorem XK (h:BE d=true):BE (Ca d)=true:=by
 rw [Ll h]
 exact C7.2 (C7.1 h).tidy.1
theorem XL (h:BE d=true):Cy (Ca d)=Cy d:=by
 rw [Lk h,Lk (XK h),Ll h]
 exact (C7.1 h).tidy.2
end
theorem Z7 {d:Dsk}{s:Sto}(hs:SD s) (h:¬ ((Ag d s).length:Int)=0){c:Int}(hc:0≤c):Ao d (Ag d s) c=toD d (BD d s) c∧BE (Ao d (Ag d s) c)=true:=by
 obtain ⟨q,e⟩:=FlD.of hs h
 have o:=C7.2 (q.to c).1
 rw [e,VM (C7.2 q.v) hc o]
 exact ⟨rfl,o⟩
theorem Hm {s:Sto}(h:SD s) (hk:Ab s=true){k:Nat}(hl:k+2≤s.parts.length):Bt (CV s k) [] 0 99=Bt s [] 0 99 :=
 Mb (x:=CV s k) (s:=s) rfl (hk.trans (Gk h hk hl).symm) (fun _ id a b=>(E4 (StoK.of h hk) hl a (by have:=h.nm.len; omega)).2) _ _
section
variable {d:Dsk} {i:Int}
theorem Z8 (hd:DD d) (h:¬ ((Ah d i).length:Int)=0){c:Int}(hc:0≤c):Ao d (Ah d i) c=toD d (Aq d i.toNat) c∧BE (Ao d (Ah d i) c)=true:=by
 obtain ⟨x,y,q,e,_⟩:=MgD.of hd h
 have o:=C7.2 (q.to c).1
 rw [e,VM (C7.2 q.v) hc o]
 exact ⟨rfl,o⟩
end
end Go.Proofs.YtckdhcbbgmiccaaGreatDoor
namespace Go.Proofs.YtckdhcbbgmiccaaGreatDoor
structure WV (w:Wld):Prop where
 wd:WD w
 v:DskV w.disk
 k:Ab w.store=true
 p:w.store.parts=w.disk.list.map (BA w.disk)
 m:w.disk.names=w.store.idx.names.take w.disk.names.length
 tf:∀ f∈w.disk.files,f.num∈w.disk.list
theorem WV.sd {w:Wld}(h:WV w):SD w.store:=h.wd.sd
theorem WV.dd {w:Wld}(h:WV w):DD w.disk:=h.wd.dd
theorem WV.dk {w:Wld}(h:WV w):BE w.disk=true:=C7.2 h.v
theorem WV.nb {w:Wld}(h:WV w):nmB w.store.idx.names=true:=EU.2 h.wd.wi.sto.nm
theorem WV.fits {w:Wld}(h:WV w):C5 w.disk w.store=true:=(Pz h.dk (by rw [h.nb,h.k]; rfl) h.p h.m).symm
def EL:Wld:=⟨⟨⟨[],[]⟩,[],[]⟩,⟨[],[],[],1⟩⟩
theorem WV.new:WV EL:=⟨WD.new,⟨by simp [EL],by simp [EL],by simp [EL],by simp [EL],by simp [EL],by simp [EL],by simp [EL],by decide,by decide⟩,by decide,rfl,rfl,by simp [EL]⟩
theorem IB {w:Wld}(hd:DD w.disk) (hv:DskV w.disk):BC w=⟨At w.disk,BR w.disk⟩:=by
 obtain ⟨v,e⟩:=hv.tidy
 have hk:=C7.2 v
 have e1:=hd.tidy.X0 hk
 have e2:=(hd.tidy.sd hk).copy
 unfold BC
 rw [e1,e2,e]
theorem Q8 {d e:Dsk}(h:At d=At e):d.list.map (BA d)=e.list.map (BA e):=congrArg Sto.parts h
theorem WV.Q9 {s:Sto}{d:Dsk}(hd:DD d) (hv:DskV d) (hw:WD (BC ⟨s,d⟩)):WV (BC ⟨s,d⟩):=by
 have e:=IB (w:=⟨s,d⟩) hd hv
 rw [e] at hw ⊢
 obtain ⟨v,eo⟩:=hv.tidy
 refine ⟨hw,v,hv.so,(Q8 eo).symm,?_,fun f hf=>?_⟩
 ·show d.names=d.names.take d.names.length
  rw [List.take_length]
 ·have:=(List.mem_filter.1 hf).2
  show f.num∈d.list
  simpa using this
theorem VN (x:Idx) (n:List Tag):∃ l,(BY x n).1.names=x.names++l:=by
 unfold BY
 split
 ·exact ⟨[],by simp⟩
 ·split
  ·exact ⟨[],by simp⟩
  ·exact ⟨[n],rfl⟩
theorem VP {α:Type}{a l m:List α}(h:a=l.take a.length):a=(l++m).take a.length:=by
 have hl:a.length≤l.length:=by
  have:=congrArg List.length h
  rw [List.length_take] at this
  omega
 rw [List.take_append_of_le_length hl]
 exact h
theorem WV.add {w:Wld}(h:WV w){n:List Tag}{r:Row}(hw:WD ⟨(CQ w.store n r).1,w.disk⟩):WV ⟨(CQ w.store n r).1,w.disk⟩:=by
 cases hb:(CQ w.store n r).2 with
 | false =>
   have e:(CQ w.store n r).1=w.store:=by
    unfold CQ at hb ⊢
    split at hb
    ·rename_i hc; rw [if_pos hc]
    ·rename_i hc
     rw [if_neg hc]
     split at hb
     ·rename_i hc2; rw [if_pos hc2]
     ·cases hb
   rw [e] at hw ⊢
   exact h
 | true =>
   obtain ⟨a1,a2,a3,a4,e⟩:=Oj hb
   rw [e] at hw ⊢
   obtain ⟨l,hl⟩:=VN w.store.idx n
   refine ⟨hw,h.v,Wz h.sd h.k a1 a2 a3 a4,h.p,?_,h.tf⟩
   show w.disk.names=(BY w.store.idx n).1.names.take w.disk.names.length
   rw [hl]
   exact VP h.m
theorem It {d:Dsk}{s:Sto}(q:FlD d s){c:Int}(hc:¬ c< 2):BD d s=[⟨1,d.next,Ak s.mem,[],[]⟩,⟨2,0,⟨[],[]⟩,d.list++[d.next],s.idx.names⟩]∧toD d (BD d s) c=⟨d.files++[⟨d.next,Ak s.mem⟩],d.list++[d.next],s.idx.names,d.next+1⟩:=by
 have e:=Dd (d:=d) (s:=s) (by have:=q.m; rw [← List.length_pos_iff] at this; omega) (by have:=q.l; omega) (by have:=q.n; omega) (by have:=q.f; omega)
 refine ⟨e,?_⟩
 rw [e,DK AB,Fa rfl,DK AB,HY rfl,Lm]
theorem F8 {d:Dsk}{s:Sto}(q:FlD d s):((BD d s).length:Int)=2:=by rw [(It q (c:=2) AB).1]; rfl
theorem Gn {s:Sto}(h:SD s) (hk:Ab s=true) (hm:s.mem≠[]) (hl:s.parts.length< 6):(BM s).1=DA s∧(Bs s).1=DA s:=by
 rw [← List.length_pos_iff] at hm
 have f1:=JW h hk AB AB
 have f2:(Bs s).2=true:=by rw [f1]
 have f3:=(TJ h f2).1
 refine ⟨?_,f3⟩
 have f4:Bs s=BM s:=by rw [Iq hk,h.copy]
 rw [← f4]
 exact f3
theorem WV.fl {w:Wld}(h:WV w) (hn:BD w.disk w.store≠[]):FlD w.disk w.store:=by
 by_cases hc:w.store.mem.length=0∨w.disk.list.length≥6∨w.disk.next≥999∨w.disk.files.length≥20
 ·exact absurd (by unfold BD; rw [if_pos hc]) hn
 ·exact ⟨h.v,h.sd,h.k,h.nb,h.p,fun e=>hc (.inl (by rw [e]; rfl)),by omega,by omega,by omega⟩
theorem FlD.parts {d:Dsk}{s:Sto}(q:FlD d s):s.parts.length< 6:=by rw [q.p,List.length_map]; exact q.l
theorem WV.XM {w:Wld}(h:WV w) (q:FlD w.disk w.store){c:Int}(hc:¬ c< 2) (hw:WD ⟨DA w.store,toD w.disk (BD w.disk w.store) c⟩):WV ⟨DA w.store,toD w.disk (BD w.disk w.store) c⟩:=by
 obtain ⟨v,o⟩:=q.to c
 rw [if_neg hc] at o
 have e:=(It q hc).2
 refine ⟨hw,v,JV q.sd q.k q.m q.parts,?_,?_,fun f hf=>?_⟩
 ·exact (congrArg Sto.parts o).symm
 ·have:(toD w.disk (BD w.disk w.store) c).names=w.store.idx.names:=congrArg (fun s=>s.idx.names) o
  show (toD w.disk (BD w.disk w.store) c).names=w.store.idx.names.take (toD w.disk (BD w.disk w.store) c).names.length
  rw [this,List.take_length]
 ·have hf2:f∈(toD w.disk (BD w.disk w.store) c).files:=hf
  show f.num∈(toD w.disk (BD w.disk w.store) c).list
  rw [e] at hf2 ⊢
  rcases List.mem_append.1 hf2 with hf2 | hf2
  ·exact List.mem_append.2 (.inl (h.tf f hf2))
  ·simp at hf2
   subst hf2
   simp
theorem SH {fs:List Fil}(h:fs.Pairwise (fun a b=>a.num< b.num)){i j:Nat}{a b:Fil}(ha:fs[i]? = some a) (hb:fs[j]? = some b) (e:a.num=b.num):i=j:=by
 rw [List.pairwise_iff_getElem] at h
 obtain ⟨h1,h2⟩:=List.getElem?_eq_some_iff.1 ha
 obtain ⟨h3,h4⟩:=List.getElem?_eq_some_iff.1 hb
 rcases Nat.lt_trichotomy i j with hij | hij | hij
 ·have:=h i j h1 h3 hij; rw [h2,h4] at this; omega
 ·exact hij
 ·have:=h j i h3 h1 hij; rw [h2,h4] at this; omega
theorem SI {d:Dsk}(h:DskV d){n:Int}(hn:n∉d.list){f:Fil}(hf:f∈EH d n):f.num≠n:=fun e=>by
 have hm:=Hl f hf
 have h1:0≤Aw d n:=(Fc d n).2 ⟨f,hm,e⟩
 have h3:d.list.contains n=false:=by
  cases hc:d.list.contains n with
  | false=>rfl
  | true=>exact absurd (List.contains_iff_mem.1 hc) hn
 rw [Qh h1 h3] at hf
 obtain ⟨y,hy1,hy2,_⟩:=(fun hh=>SE d.files n 0 hh) h1
 have hy1':d.files[(Aw d n).toNat]? = some y:=hy1
 rcases List.mem_append.1 hf with hf | hf
 ·obtain ⟨j,hj⟩:=List.mem_iff_getElem?.1 hf
  rw [List.getElem?_take] at hj
  split at hj
  ·have:=SH h.asc hj hy1' (e.trans hy2.symm); omega
  ·cases hj
 ·obtain ⟨j,hj⟩:=List.mem_iff_getElem?.1 hf
  rw [List.getElem?_drop] at hj
  have:=SH h.asc hj hy1' (e.trans hy2.symm)
  omega
theorem WV.mg {w:Wld}(h:WV w){i:Int}(hn:Aq w.disk i≠[]):∃ x y,MgD w.disk i.toNat x y∧i=(i.toNat:Int)∧Aq w.disk i=Aq w.disk i.toNat∧Ah w.disk i=Aq w.disk i:=by
 have e:=Ea (a:=i) h.dk
 have h0:¬ ((Ah w.disk i).length:Int)=0:=by
  rw [e]
  intro h0
  exact hn (List.length_eq_zero_iff.1 AB)
 obtain ⟨x,y,q,e2,i0⟩:=MgD.of h.dd h0
 exact ⟨x,y,q,i0,by rw [← e,e2],e⟩
theorem Jk {s:Sto}{a:Nat}(hl:a+2≤s.parts.length):BL s (a:Int)=(CV s a,true):=by
 unfold BL CV
 rw [if_pos (by unfold inR; simp; omega)]
 simp
theorem Me {d:Dsk}{a:Nat}{x y:Int}(q:MgD d a x y){c:Int}(hc:¬ c< 4):toD d (Aq d a) c=⟨EH ⟨EH (mgD d a x y) x,(mgD d a x y).list,(mgD d a x y).names,(mgD d a x y).next⟩ y,(mgD d a x y).list,(mgD d a x y).names,(mgD d a x y).next⟩:=by
 have e2:doD (⟨d.files++[⟨d.next,BJ (BA d x) (BA d y)⟩],d.list,d.names,d.next+1⟩:Dsk) ⟨2,0,⟨[],[]⟩,d.list.take a++[d.next]++d.list.drop (a+2),d.names⟩=mgD d a x y:=HY rfl
 rw [q.e,DK AB,Fa rfl,DK AB,e2,DK AB,F3 rfl,DK AB,F3 rfl,Lm]
theorem F9 {d:Dsk}{a:Nat}{x y:Int}(q:MgD d a x y):((Aq d a).length:Int)=4:=by rw [q.e]; rfl
theorem WV.open {w:Wld}(h:WV w):(At w.disk).parts=w.store.parts:=h.p.symm
theorem WV.XN {w:Wld}(h:WV w){a:Nat}{x y:Int}(q:MgD w.disk a x y){c:Int}(hc:¬ c< 4) (hw:WD ⟨CV w.store a,toD w.disk (Aq w.disk a) c⟩):WV ⟨CV w.store a,toD w.disk (Aq w.disk a) c⟩:=by
 obtain ⟨v,o⟩:=q.to c
 rw [if_neg AB] at o
 have e:=Me q hc
 have hl:a+2≤w.store.parts.length:=by rw [← h.open,q.open.2.2]; exact q.l
 refine ⟨hw,v,Gk h.sd h.k hl,?_,?_,fun f hf=>?_⟩
 ·have:=congrArg Sto.parts o
  have e3:(CV (At w.disk) a).parts=(CV w.store a).parts:=by show Gy (At w.disk).parts a=Gy w.store.parts a; rw [h.open]
  rw [e3] at this
  exact this.symm
 ·have:(toD w.disk (Aq w.disk a) c).names=w.disk.names:=congrArg (fun s=>s.idx.names) o
  show (toD w.disk (Aq w.disk a) c).names=w.store.idx.names.take (toD w.disk (Aq w.disk a) c).names.length
  rw [this]
  exact h.m
 ·have hf2:f∈(toD w.disk (Aq w.disk a) c).files:=hf
  show f.num∈(toD w.disk (Aq w.disk a) c).list
  rw [e] at hf2 ⊢
  obtain ⟨v2,_⟩:=q.v2
  obtain ⟨v3,_⟩:=v2.gone x
  have hnd:=q.v.nd
  rw [q.list] at hnd
  rw [List.nodup_append,List.nodup_cons,List.nodup_cons] at hnd
  have mx:x∉(mgD w.disk a x y).list:=fun hm=>by
   rcases q.mem x hm with hm | hm
   ·exact hm.2.1 rfl
   ·have:=q.v.lt x (AV q.hx); omega
  have my:y∉(mgD w.disk a x y).list:=fun hm=>by
   rcases q.mem y hm with hm | hm
   ·exact hm.2.2 rfl
   ·have:=q.v.lt y (AV q.hy); omega
  have ny:=SI v3 my hf2
  have hf3:=Hl f hf2
  have nx:=SI v2 mx hf3
  have hf4:=Hl f hf3
  rcases List.mem_append.1 hf4 with hf5 | hf5
  ·have hm:=h.tf f hf5
   rw [q.list] at hm
   show f.num∈w.disk.list.take a++[w.disk.next]++w.disk.list.drop (a+2)
   simp only [List.mem_append,List.mem_cons,List.not_mem_nil,or_false] at hm ⊢
   rcases hm with hm | hm | hm | hm
   ·exact .inl (.inl hm)
   ·exact absurd hm nx
   ·exact absurd hm ny
   ·exact .inr hm
  ·simp at hf5
   subst hf5
   show w.disk.next∈w.disk.list.take a++[w.disk.next]++w.disk.list.drop (a+2)
   simp
theorem P3 {w:Wld}(h:WV w) (q:FlD w.disk w.store) (c:Int):DD (toD w.disk (BD w.disk w.store) c):=by
 have e:Ag w.disk w.store=BD w.disk w.store:=Fj h.fits
 have:=(Kc h.dd h.sd).1
 rw [e] at this
 exact this.ok c.toNat
theorem Mf {w:Wld}(h:WV w) (i:Int) (c:Int):DD (toD w.disk (Aq w.disk i) c):=by
 have:=(Kd h.dd i).1
 rw [Ea h.dk] at this
 exact this.ok c.toNat
theorem WV.do {w:Wld}(h:WV w){e:Evt}(he:NmD e.name):WV (doW w e):=by
 have hw:=h.wd.do he
 by_cases k1:e.kind=1
 ·cases hn:Ar e.name with
  | false=>rw [HZ k1 hn]; exact h
  | true=>rw [JJ k1 hn] at hw ⊢; exact h.add hw
 ·by_cases k2:e.kind=2
  ·rw [IU k2] at hw ⊢
   by_cases hs:((BD w.disk w.store).length:Int)=0∨e.cut< 0
   ·rw [C2 hs]; exact h
   ·have q:=h.fl (fun e0=>hs (.inl (by rw [e0]; rfl)))
    by_cases hc:e.cut< (BD w.disk w.store).length
    ·rw [E2 (fun e0=>hs (.inl e0)) (fun e0=>hs (.inr e0)) hc] at hw ⊢
     exact WV.Q9 (P3 h q _) (q.to _).1 hw
    ·rw [Df (fun e0=>hs (.inl e0)) (fun e0=>hs (.inr e0)) hc,(Gn h.sd h.k q.m q.parts).1] at hw ⊢
     exact h.XM q (by rw [F8 q] at hc; exact hc) hw
  ·by_cases k3:e.kind=3
   ·rw [HA k3] at hw ⊢
    by_cases hs:((Aq w.disk e.at_).length:Int)=0∨e.cut< 0
    ·rw [C2 hs]; exact h
    ·obtain ⟨x,y,q,i0,e3,_⟩:=h.mg (i:=e.at_) (fun e0=>hs (.inl (by rw [e0]; rfl)))
     have hl:e.at_.toNat+2≤w.store.parts.length:=by rw [← h.open,q.open.2.2]; exact q.l
     by_cases hc:e.cut< (Aq w.disk e.at_).length
     ·rw [E2 (fun e0=>hs (.inl e0)) (fun e0=>hs (.inr e0)) hc] at hw ⊢
      exact WV.Q9 (Mf h _ _) (by rw [e3]; exact (q.to _).1) hw
     ·have em:(BL w.store e.at_).1=CV w.store e.at_.toNat:=by
       have:=Jk hl
       rw [← i0] at this
       rw [this]
      rw [Df (fun e0=>hs (.inl e0)) (fun e0=>hs (.inr e0)) hc,em,e3] at hw ⊢
      exact h.XN q (by rw [e3,F9 q] at hc; exact hc) hw
   ·by_cases k4:e.kind=4
    ·rw [NX k4] at hw ⊢
     exact WV.Q9 (s:=w.store) h.dd h.v hw
    ·rw [NY k1 k2 k3 k4]; exact h
theorem WV.copy {w:Wld}(h:WV w):Rk w=w:=by
 unfold Rk
 rw [h.sd.copy,h.dd.X0 h.dk]
def Co (es:List Evt):Wld:=es.foldl doW EL
def EsD (es:List Evt):Prop:=∀ e∈es,EvD e
theorem WV.foldl:∀ (es:List Evt) (w:Wld),WV w→EsD es→WV (es.foldl doW w):=by
 intro es
 induction es with
 | nil=>intro w h _; exact h
 | cons e es ih=>intro w h he; exact ih _ (h.do (he e AD).1) (fun x hx=>he x (by simp [hx]))
theorem WV.Y3 {es:List Evt}(h:EsD es):WV (Co es):=WV.foldl es _ WV.new h
theorem EsD.nil:EsD []:=fun e h=>by cases h
theorem EsD.snoc {es:List Evt}{e:Evt}(h:EsD es) (he:EvD e):EsD (es++[e]):=fun x hx=>by
 rcases List.mem_append.1 hx with hx | hx
 ·exact h x hx
 ·simp at hx; subst hx; exact he
section
variable {w:Wld} {e:Evt}
theorem Y4 (hd:DD w.disk) (hk:BE w.disk=true):BC w=⟨Cy (Ca w.disk),Ca w.disk⟩:=by
 rw [IB hd (C7.1 hk),XL hk,Lk hk,Ll hk]
theorem oY (h:e.kind=4):doW w e=BC w:=NX h
theorem VQ (h:WV w) (hn:Ar e.name=true):Bb w.store e.name e.row=CQ w.store e.name e.row:=by
 unfold Bb
 rw [if_pos ⟨h.k,hn⟩,h.sd.copy]
theorem do_1 (h:WV w) (h1:e.kind=1) (h2:(Bb w.store e.name e.row).2=true):doW w e=⟨(Bb w.store e.name e.row).1,w.disk⟩:=by
 have hn:=(Wy h2).2.1
 rw [JJ h1 hn,VQ h hn]
theorem X5 (h:WV w) (h1:e.kind=1) (h2:(Bb w.store e.name e.row).2=false):doW w e=w:=by
 cases hn:Ar e.name with
 | false=>exact HZ h1 hn
 | true =>
   rw [JJ h1 hn]
   rw [VQ h hn] at h2
   have e2:(CQ w.store e.name e.row).1=w.store:=by
    unfold CQ at h2 ⊢
    split at h2
    ·rename_i hc; rw [if_pos hc]
    ·rename_i hc
     rw [if_neg hc]
     split at h2
     ·rename_i hc2; rw [if_pos hc2]
     ·cases h2
   rw [e2]
theorem X6 (h:WV w) (h1:e.kind=2) (h2:((Ag w.disk w.store).length:Int)=0∨e.cut< 0):doW w e=w:=by
 rw [IU h1]
 rw [Fj h.fits] at h2
 exact C2 h2
theorem Ol (h:WV w) (h2:¬ ((Ag w.disk w.store).length:Int)=0) (h3:¬ e.cut< 0):Ao w.disk (Ag w.disk w.store) e.cut=toD w.disk (BD w.disk w.store) e.cut∧DD (Ao w.disk (Ag w.disk w.store) e.cut)∧BE (Ao w.disk (Ag w.disk w.store) e.cut)=true:=by
 obtain ⟨e1,o⟩:=Z7 h.sd h2 (by omega:0≤e.cut)
 exact ⟨e1,VK h.dd (fun _=>(Kc h.dd h.sd).1),o⟩
theorem Z9 (h:WV w) (h1:e.kind=2) (h2:¬ ((Ag w.disk w.store).length:Int)=0) (h3:¬ e.cut< 0) (h4:e.cut< (Ag w.disk w.store).length):doW w e=BC ⟨w.store,Ao w.disk (Ag w.disk w.store) e.cut⟩:=by
 rw [(Ol h h2 h3).1,IU h1]
 rw [Fj h.fits] at h2 h4
 exact E2 h2 h3 h4
theorem b4 (h:WV w) (h1:e.kind=2) (h2:¬ ((Ag w.disk w.store).length:Int)=0) (h3:¬ e.cut< 0) (h4:¬ e.cut< (Ag w.disk w.store).length):doW w e=⟨(Bs w.store).1,Ao w.disk (Ag w.disk w.store) e.cut⟩:=by
 rw [(Ol h h2 h3).1,IU h1]
 have h20:=h2
 rw [Fj h.fits] at h2 h4
 have q:=h.fl (fun e0=>h2 (by rw [e0]; rfl))
 rw [Df h2 h3 h4,(Gn h.sd h.k q.m q.parts).1,(Gn h.sd h.k q.m q.parts).2]
theorem X7 (h:WV w) (h1:e.kind=3) (h2:((Ah w.disk e.at_).length:Int)=0∨e.cut< 0):doW w e=w:=by
 rw [HA h1]
 rw [Ea h.dk] at h2
 exact C2 h2
theorem Om (h:WV w) (h2:¬ ((Ah w.disk e.at_).length:Int)=0) (h3:¬ e.cut< 0):Ao w.disk (Ah w.disk e.at_) e.cut=toD w.disk (Aq w.disk e.at_) e.cut∧DD (Ao w.disk (Ah w.disk e.at_) e.cut)∧BE (Ao w.disk (Ah w.disk e.at_) e.cut)=true:=by
 obtain ⟨e1,o⟩:=Z8 h.dd h2 (by omega:0≤e.cut)
 obtain ⟨x,y,q,e2,i0⟩:=MgD.of h.dd h2
 refine ⟨?_,VK h.dd (fun _=>(Kd h.dd _).1),o⟩
 rw [e1,← e2,Ea h.dk]
theorem b5 (h:WV w) (h1:e.kind=3) (h2:¬ ((Ah w.disk e.at_).length:Int)=0) (h3:¬ e.cut< 0) (h4:e.cut< (Ah w.disk e.at_).length):doW w e=BC ⟨w.store,Ao w.disk (Ah w.disk e.at_) e.cut⟩:=by
 rw [(Om h h2 h3).1,HA h1]
 rw [Ea h.dk] at h2 h4
 exact E2 h2 h3 h4
theorem hX (h:WV w) (h1:e.kind=3) (h2:¬ ((Ah w.disk e.at_).length:Int)=0) (h3:¬ e.cut< 0) (h4:¬ e.cut< (Ah w.disk e.at_).length):doW w e=⟨(BT w.store e.at_).1,Ao w.disk (Ah w.disk e.at_) e.cut⟩:=by
 rw [(Om h h2 h3).1,HA h1]
 rw [Ea h.dk] at h2 h4
 have em:BT w.store e.at_=BL w.store e.at_:=by rw [G3 h.k,h.sd.copy]
 rw [Df h2 h3 h4,em]
end
end Go.Proofs.YtckdhcbbgmiccaaGreatDoor
