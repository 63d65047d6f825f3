/- Blocks and parts merged, as the program does it: plain laws. -/
import Derived.Test.YtfninflnngpchaaGreatDoorLxzMod30
import Derived.Test.YtfninflnngpchaaGreatDoorLxzMod23
open Go.Proofs.Tryz
set_option linter.unusedVariables false
set_option linter.unusedSimpArgs false
namespace Go.Proofs.YtfninflnngpchaaGreatDoor
theorem Kc {b:List Row}(h:Bi b=true):Blk b:=by
 unfold Bi at h
 simp only [AW] at h
 exact h.1
def CG (a b:List Row):List Row × Bool:=if Bi a=true∧Bi b=true∧¬ ((Bf a b).length:Int) > 24 then (Bf a b,true) else ([],false)
theorem LF {a b:List Row}(h:Bi a=false∨Bi b=false):CG a b=([],false):=by
 unfold CG
 rw [if_neg]
 rintro ⟨h1,h2,_⟩
 rcases h with h | h
 ·rw [h] at h1; cases h1
 ·rw [h] at h2; cases h2
theorem RO {a b out:List Row}(e:out=Bf a b) (_ha:Bi a=true) (_hb:Bi b=true) (h:(out.length:Int) > 24):[]=(CG a b).1∧false=(CG a b).2:=by
 subst e
 unfold CG
 rw [if_neg (fun q=>q.2.2 h)]
 exact ⟨rfl,rfl⟩
theorem RQ {a b out:List Row}(e:out=Bf a b) (ha:Bi a=true) (hb:Bi b=true) (h:¬ (out.length:Int) > 24):out=(CG a b).1∧true=(CG a b).2:=by
 subst e
 unfold CG
 rw [if_pos ⟨ha,hb,h⟩]
 exact ⟨rfl,rfl⟩
theorem UI {a b:List Row}(h:(CG a b).2=true):(CG a b).1=Bf a b:=by
 unfold CG at h ⊢
 split at h
 ·rename_i h1; rw [if_pos h1]
 ·cases h
def okM (a b:Prt) (n:Nat):Bool:=(List.range n).all (fun i=>(CG (BJ a ((i:Int)+1)) (BJ b ((i:Int)+1))).2)
theorem UJ (a b:Prt) (n:Nat):okM a b (n+1)=(okM a b n&&(CG (BJ a ((n:Int)+1)) (BJ b ((n:Int)+1))).2):=by simp [okM,List.range_succ]
def CE (a b:Prt):Prt × Bool:=if Av a=true∧Av b=true∧okM a b 6=true then (BF a b,true) else (⟨[],[]⟩,false)
theorem LG {a b:Prt}(h:Av a=false∨Av b=false):CE a b=(⟨[],[]⟩,false):=by
 unfold CE
 rw [if_neg]
 rintro ⟨h1,h2,_⟩
 rcases h with h | h
 ·rw [h] at h1; cases h1
 ·rw [h] at h2; cases h2
theorem RR {a b:Prt}{k:Nat}(h1:1≤k) (h2:k≤6) (h:(CG (BJ a (k:Int)) (BJ b (k:Int))).2=false):CE a b=(⟨[],[]⟩,false):=by
 unfold CE
 rw [if_neg]
 rintro ⟨_,_,h3⟩
 unfold okM at h3
 rw [List.all_eq_true] at h3
 have:=h3 (k - 1) (by simp; omega)
 rw [show ((k - 1:Nat):Int)+1=(k:Int) by omega,h] at this
 cases this
theorem PI {a b:Prt}{k:Nat}(h:okM a b (k - 1)=true) (h1:1≤k) (h2:(CG (BJ a (k:Int)) (BJ b (k:Int))).2=true):okM a b (k+1 - 1)=true:=by
 rw [show k+1 - 1=(k - 1)+1 by omega,UJ,h,show ((k - 1:Nat):Int)+1=(k:Int) by omega,h2]
 rfl
theorem RS {a b:Prt}(ha:Av a=true) (hb:Av b=true){k:Nat}(hk:1≤k) (h:(CG (BJ a (k:Int)) (BJ b (k:Int))).2=true):BY a b (k+1 - 1)=BY a b (k - 1)++[(CG (BJ a (k:Int)) (BJ b (k:Int))).1]:=by
 have ea:BJ a (k:Int)=partOf a (k:Int):=by unfold BJ; rw [if_pos ha]
 have eb:BJ b (k:Int)=partOf b (k:Int):=by unfold BJ; rw [if_pos hb]
 rw [show k+1 - 1=(k - 1)+1 by omega,Iv,show ((k - 1:Nat):Int)+1=(k:Int) by omega,UI h,ea,eb]
section
variable {a b:Prt} {k:Nat}
theorem WM {o:List Int}(ha:Av a=true) (hb:Av b=true) (hk:1≤k) (h:(CG (BJ a (k:Int)) (BJ b (k:Int))).2=true) (e:o=(BM 0 (BY a b (k - 1))).1) (hl:((CG (BJ a (k:Int)) (BJ b (k:Int))).1.length:Int) > 0):o++[(k:Int)]=(BM 0 (BY a b (k+1 - 1))).1:=by
 rw [RS ha hb hk h,DX,if_pos AB,e,D7,show ((0:Nat):Int)+((k - 1:Nat):Int)+1=(k:Int) by omega]
theorem WN {o:List Int}(ha:Av a=true) (hb:Av b=true) (hk:1≤k) (h:(CG (BJ a (k:Int)) (BJ b (k:Int))).2=true) (e:o=(BM 0 (BY a b (k - 1))).1) (hl:¬ ((CG (BJ a (k:Int)) (BJ b (k:Int))).1.length:Int) > 0):o=(BM 0 (BY a b (k+1 - 1))).1:=by
 rw [RS ha hb hk h,DX,if_neg AB,e]
theorem WO {o:List (List Row)}(ha:Av a=true) (hb:Av b=true) (hk:1≤k) (h:(CG (BJ a (k:Int)) (BJ b (k:Int))).2=true) (e:o=(BM 0 (BY a b (k - 1))).2) (hl:((CG (BJ a (k:Int)) (BJ b (k:Int))).1.length:Int) > 0):o++[(CG (BJ a (k:Int)) (BJ b (k:Int))).1]=(BM 0 (BY a b (k+1 - 1))).2:=by
 rw [RS ha hb hk h,DX,if_pos AB,e]
theorem WQ {o:List (List Row)}(ha:Av a=true) (hb:Av b=true) (hk:1≤k) (h:(CG (BJ a (k:Int)) (BJ b (k:Int))).2=true) (e:o=(BM 0 (BY a b (k - 1))).2) (hl:¬ ((CG (BJ a (k:Int)) (BJ b (k:Int))).1.length:Int) > 0):o=(BM 0 (BY a b (k+1 - 1))).2:=by
 rw [RS ha hb hk h,DX,if_neg AB,e]
theorem RT {x:List Int}{y:List (List Row)}(hk:k=7) (ha:Av a=true) (hb:Av b=true) (e1:x=(BM 0 (BY a b (k - 1))).1) (e2:y=(BM 0 (BY a b (k - 1))).2) (h:okM a b (k - 1)=true):(⟨x,y⟩:Prt)=(CE a b).1∧true=(CE a b).2:=by
 subst hk e1 e2
 unfold CE
 rw [if_pos ⟨ha,hb,h⟩]
 exact ⟨rfl,rfl⟩
end
theorem NI {p:Prt}(h:Cw p) (id:Int):(BJ p id).length≤1000:=by
 unfold BJ
 split
 ·exact DR h id
 ·simp
def BR (s:Sto) (at_:Int):Sto × Bool:=if Aa s then BH (Ah s) at_ else (⟨⟨[],[]⟩,[],[]⟩,false)
theorem KB {s:Sto}{i:Int}(h:Aa s=false):BR s i=(⟨⟨[],[]⟩,[],[]⟩,false):=by unfold BR; rw [if_neg (by simp [h])]
theorem Gq {s:Sto}{i:Int}(h:Aa s=true):BR s i=BH (Ah s) i:=by unfold BR; rw [if_pos h]
end Go.Proofs.YtfninflnngpchaaGreatDoor
namespace Go.Proofs.YtfninflnngpchaaGreatDoor
set_option maxRecDepth 100000
set_option maxHeartbeats 4000000
variable {w:World} {F:Nat→Prop} {a1 a2 a3 a4:Option Addr} {n1 c1 n2 c2 n3 c3 n4 c4:Nat}
theorem JI (a:List Row) (b:List Row) (h1:RepS w F a1 n1 c1 a) (h2:RepS w F a2 n2 c2 b) (p0:a.length≤1000) (p1:b.length≤1000):Calls Tryz.prog 172 [.slice a1 n1 c1,.slice a2 n2 c2].toArray w (Am fun rv w'=>(∃ v0,rv=.tuple #[v0,.bool ((CG a b).2)]∧VL (ge w.heap.size) w' ((CG a b).1:List Row) v0)∧Ext w w'):=by
 cases h1.len
 cases h2.len
 refine goT func172 ?_
 have Z:=((St.i0 F w).p h1).p h2
 refine .s<|.g<|.r 2<|.d<|.s<|.s<|.g<|.r 1<|RG.C0 (DS a (Z.a 1)) Z fun w Z=>?_
 cases aq:(Bi a)
 ·exact .r 6<|.d<|.ct<|.s<|.g<|RG.N0 Row 0 Z fun aB w Z=>.r 2<|.d<|T.r2 func172 results172 (.T _) (.t (.bool false)) ⟨⟨_,(Be rfl (AG (by exact (congrArg Prod.snd (LF (.inl ‹_›))).symm))),Z.rM 0 ([]:List Row) (by exact (congrArg Prod.fst (LF (.inl ‹_›))).symm)⟩,Z.xt⟩
 refine .r 3<|RG.C0 (DS b (Z.a 0)) Z fun w Z=>?_
 cases ar:(Bi b)
 ·exact .r 2<|.d<|.ct<|.s<|.g<|RG.N0 Row 0 Z fun aC w Z=>.r 2<|.d<|T.r2 func172 results172 (.T _) (.t (.bool false)) ⟨⟨_,(Be rfl (AG (by exact (congrArg Prod.snd (LF (.inr ‹_›))).symm))),Z.rM 0 ([]:List Row) (by exact (congrArg Prod.fst (LF (.inr ‹_›))).symm)⟩,Z.xt⟩
 refine .r 2<|.d<|.cf<|.sk<|.s<|.g<|RG.N0 Row 0 Z fun aD w Z=>.r 1<|RG.An (hf:=.inr Bp) 0 1 ([]:List Row) a Z fun ah ai w Z=>.r 1<|.d<|.s<|.s<|.g<|.r 3<|.d<|.b 0 ?_
 have Z:=Z.sl 0
 refine T.Lp ((([]++a):List Row),sA ah,ai,(0:Nat)) (fun (out,a_out,c_out,k)=>([(6,.slice a_out out.length c_out),(21,.slice a2 b.length c2),(22,vI (b.length:Int)),(23,vI (k:Int))],[],[⟨0,none,.rep a_out c_out out⟩],b.length - k,(k≤b.length)∧(Blk out)∧((b.drop k).foldl Eb out=Bf a b))) [0] Z ⟨AB,(by exact Kc ‹_›),AF⟩ ?_
 rintro ⟨out,a_out,c_out,k⟩ aE w Z ⟨ax,ay,az⟩ ab
 refine .s<|.g<|.bp ((k:Int)< (b.length:Int)) (fun ac=>?_) (fun ac=>.d<|.s<|.cf<|.x 0 rfl<|.s<|.s<|.g<|.r 2<|.bp ((out.length:Int) > 24) (fun ae=>.d<|.ct<|.s<|.g<|RG.N0 Row 0 Z fun aF w Z=>.r 2<|.d<|T.r2 func172 results172 (.T _) (.t (.bool false)) ⟨⟨_,(Be rfl (AG (by exact (RO (out:=out) (Fp ‹_› AB) ‹_› ‹_› AB).2))),Z.rM 0 ([]:List Row) (by exact (RO (out:=out) (Fp ‹_› AB) ‹_› ‹_› AB).1)⟩,Z.xt⟩) fun ae=>.d<|.cf<|.sk<|.s<|.g<|.r 3<|.d<|T.r2 func172 results172 (.T _) (.t (.bool true)) ⟨⟨_,(Be rfl (AG (by exact (RQ (out:=out) (Fp ‹_› AB) ‹_› ‹_› AB).2))),Z.rL 0 out (by exact (RQ (out:=out) (Fp ‹_› AB) ‹_› ‹_› AB).1)⟩,Z.xt⟩)
 refine .d<|.s<|.ct<|.sk<|.s<|.b 1<|.s<|.g<|gx b k fun af aa=>?_
 have aA:=drop_at aa; have ag:=AV aa
 exact RG.Ix 2 aa Z<|Z.el 2 aa fun Z=>RG.Lg 0 0 Z<|RG.Np Z fun aG w Z=>RG.Ss 0 Z fun w Z=>.d<|.g<|.r 1<|RG.Ln 0 Z<|RG.CL (IZ out af (Z.a 1) (by have:=Blk.len (by assumption:Blk out); omega)) Z fun aj ak w Z=>.r 1<|.d<|.ib 1<|.g<|.it ((k:Int)+1)<|.r 1<|.d<|ab (DU af out,aj,ak,k+1) _ _ AA (Z.to 1 [0] 3) ⟨AB,(by exact Blk.ins ‹_› ((Kc (by assumption:Bi b=true)).rows _ ‹_›)),(by rw [← GH ‹_›]; exact FT ‹_› ‹_›)⟩ (by (simp only []; omega))
theorem Ek (a:Prt) (b:Prt) (h1:RepS w F a1 n1 c1 a.ids) (h2:RepS w F a2 n2 c2 a.blocks) (h3:RepS w F a3 n3 c3 b.ids) (h4:RepS w F a4 n4 c4 b.blocks) (p0:Cw a) (p1:Cw b):Calls Tryz.prog 123 [.agg #[.slice a1 n1 c1,.slice a2 n2 c2],.agg #[.slice a3 n3 c3,.slice a4 n4 c4]].toArray w (Am fun rv w'=>(∃ v0,rv=.tuple #[v0,.bool ((CE a b).2)]∧VS (ge w.heap.size) w' ((CE a b).1:Prt) v0)∧Ext w w'):=by
 refine goT func123 ?_
 obtain ⟨rfl,eH,h1⟩:=h1.tp
 obtain ⟨rfl,eI,h2⟩:=h2.tp
 obtain ⟨rfl,eJ,h3⟩:=h3.tp
 obtain ⟨rfl,eK,h4⟩:=h4.tp
 refine .s<|.g<|.np 104 [.slice a1 a.ids.length c1,.slice a2 a.blocks.length c2] fun aj fw bO bi ab cZ=>?_
 replace ⟨h1,h2,h3,h4⟩:=(sn [] bi bO).g4 h1 h2 h3 h4
 have aa:=bi
 refine .np 104 [.slice a3 b.ids.length c3,.slice a4 b.blocks.length c4] fun ak fA bP bQ ac c7=>?_
 replace ⟨h1,h2,h3,h4,ab,aa⟩:=(sn [aj] bQ bP).g6 h1 h2 h3 h4 ab aa
 refine .np 104 [AH,AH] fun am dH aW bR ae c8=>?_
 have eM:=Ab aW ab.lt
 have eO:=Ab aW ac.lt
 have eP:=aa.cn aW
 replace ⟨h1,h2,h3,h4,ab,ac,aa⟩:=(sn [ak,aj] bR aW).g7 h1 h2 h3 h4 ab ac aa
 refine .r 1<|.d<|.s<|.s<|.g<|.ln ab<|.cl (DB a h1.ta h2.ta (w:=dH) (F:=all)) ?_
 rintro fB dI ⟨rfl,bS⟩
 replace ⟨h1,h2,h3,h4,ab,ac,ae,aa⟩:=(se [am,ak,aj] bS).g8 h1 h2 h3 h4 ab ac ae aa
 cases eQ:(Av a)
 ·refine .r 6<|.d<|.ct<|.s<|.g<|.r 1<|.sc [AH,AH] ae fun fC bT da db=>?_
  replace ⟨h1,h2,h3,h4,ab,ac,aa⟩:=(so [am,ak,aj] bT).g7 h1 h2 h3 h4 ab ac aa
  exact .r 1<|.d<|.r2 func123 results123 (.bx da) (.t (.bool false)) ⟨⟨_,(Be rfl (AG (by exact (congrArg Prod.snd (LG (.inl ‹_›))).symm))),(VS.of (y:=(⟨([]:List Int),([]:List (List Row))⟩:Prt)) ⟨_,rfl,⟨_,_,_,_,_,_,rfl,(RepS.Ba _ _ none 0 AE),(RepS.Ba _ _ none 0 AE)⟩⟩ (by exact (congrArg Prod.fst (LG (.inl ‹_›))).symm))⟩,aa⟩
 refine .r 2<|.ln ac<|.cl (DB b h3.ta h4.ta (w:=dI) (F:=all)) ?_
 rintro fD fE ⟨rfl,bU⟩
 replace ⟨h1,h2,h3,h4,ab,ac,ae,aa⟩:=(se [am,ak,aj] bU).g8 h1 h2 h3 h4 ab ac ae aa
 cases eR:(Av b)
 ·refine .r 2<|.d<|.ct<|.s<|.g<|.r 1<|.sc [AH,AH] ae fun fF bV de df=>?_
  replace ⟨h1,h2,h3,h4,ab,ac,aa⟩:=(so [am,ak,aj] bV).g7 h1 h2 h3 h4 ab ac aa
  exact .r 1<|.d<|.r2 func123 results123 (.bx de) (.t (.bool false)) ⟨⟨_,(Be rfl (AG (by exact (congrArg Prod.snd (LG (.inr ‹_›))).symm))),(VS.of (y:=(⟨([]:List Int),([]:List (List Row))⟩:Prt)) ⟨_,rfl,⟨_,_,_,_,_,_,rfl,(RepS.Ba _ _ none 0 AE),(RepS.Ba _ _ none 0 AE)⟩⟩ (by exact (congrArg Prod.fst (LG (.inr ‹_›))).symm))⟩,aa⟩
 refine .r 2<|.d<|.cf<|.sk<|.s<|.g<|.ns 0 3 [] fun aE dJ aN bW dh dj=>?_
 have dm:=Ab aN ab.lt
 have dq:=Ab aN ac.lt
 have dt:=Ab aN ae.lt
 have du:=Bq aN aa.size
 have dv:=aa.cn aN
 replace ⟨h1,h2,h3,h4,ab,ac,ae,aa⟩:=(sn [am,ak,aj] bW aN).g8 h1 h2 h3 h4 ab ac ae aa
 have aG:Own (α:=Int) dJ aE 3 (nin (ge w.heap.size) [aE,am,ak,aj]) 0 0 []:=Own.Ba dh
 refine .ns 0 65 [] fun aJ dK aK bX dw dx=>?_
 have dy:=Ab aK ab.lt
 have dz:=Ab aK ac.lt
 have dA:=Ab aK ae.lt
 have dB:=Ab aK aG.lt
 have dC:=Bq aK aa.size
 have dD:=aa.cn aK
 replace ⟨h1,h2,h3,h4,ab,ac,ae,aG,aa⟩:=(sn [aE,am,ak,aj] bX aK).g9 h1 h2 h3 h4 ab ac ae aG aa
 have aQ:Own (α:=List Row) dK aJ 65 (nin (ge w.heap.size) [aJ,aE,am,ak,aj]) 0 0 []:=Own.Ba dw
 refine .r 1<|.np 104 [AH,AH] fun ao fG aL bj b8 b9=>?_
 have dL:=Ab aL ab.lt
 have dM:=Ab aL ac.lt
 have dN:=Ab aL ae.lt
 have cd:=Ab aL aG.lt
 have ce:=Ab aL aQ.lt
 have dO:=aa.cn aL
 replace ⟨h1,h2,h3,h4,ab,ac,ae,aG,aQ,aa⟩:=(sn [aJ,aE,am,ak,aj] bj aL).g10 h1 h2 h3 h4 ab ac ae aG aQ aa
 refine .sc [vS aE 0 0,vS aJ 0 0] b8 fun aO bk aX cg=>?_
 replace ⟨h1,h2,h3,h4,ab,ac,ae,aG,aQ,aa⟩:=(so [ao,aJ,aE,am,ak,aj] bk).g10 h1 h2 h3 h4 ab ac ae aG aQ aa
 refine .d<|.s<|.s<|.g<|.r 1<|.d<|.b 0<|T.loop (X:=Nat × (List Int) × Nat × Nat × Nat × (List (List Row)) × Nat × Nat × Nat) (1,([]:List Int),aE,0,0,([]:List (List Row)),aJ,0,0) (fun (j,az,r_out_0,n_out_0,c_out_0,aA,r_out_1,n_out_1,c_out_1)=>[(2,.pointer (some ⟨aj,0,none⟩)),(3,.pointer (some ⟨ak,0,none⟩)),(4,.pointer (some ⟨am,0,none⟩)),(6,.pointer (some ⟨ao,0,none⟩)),(7,vI (j:Int))]) (fun (j,az,r_out_0,n_out_0,c_out_0,aA,r_out_1,n_out_1,c_out_1) aR=>Chg (ins [aE,aJ,ao]) aO aR∧Own aR r_out_0 3 (nin (ge w.heap.size) [ao,r_out_1,r_out_0,am,ak,aj]) n_out_0 c_out_0 az∧OrB r_out_0 aE aO.heap.size∧Own aR r_out_1 65 (nin (ge w.heap.size) [ao,r_out_1,r_out_0,am,ak,aj]) n_out_1 c_out_1 aA∧OrB r_out_1 aJ aO.heap.size∧Nb r_out_1 r_out_0∧Box aR ao 104 [vS r_out_0 n_out_0 c_out_0,vS r_out_1 n_out_1 c_out_1]∧(1≤j)∧(j≤7)∧(az.length≤j)∧(aA.length≤j)∧(az=(BM 0 (BY a b (j - 1))).1)∧(aA=(BM 0 (BY a b (j - 1))).2)∧(okM a b (j - 1)=true)) (fun (j,az,r_out_0,n_out_0,c_out_0,aA,r_out_1,n_out_1,c_out_1)=>7 - j) AA ⟨AA,AA,AA,AA,AA,trivial⟩ ⟨Chg.refl _ _,aG,FO,aQ,FO,dB,aX,AB,AB,(by (simp; done)),(by (simp; done)),AF,AF,AF⟩ ?_
 rintro ⟨j,az,r_out_0,n_out_0,c_out_0,aA,r_out_1,n_out_1,c_out_1⟩ eT aR ⟨ag,ah,ax,af,ay,bm,ai,dP,dQ,dR,dS,dT,dU,dV⟩ aS
 have dW:=Dw ax dm ab.lt
 have dX:=Dw ax dq ac.lt
 have dY:=Dw ax dt ae.lt
 have ci:=Dw ax (Nb.symm cd) aX.lt
 have cj:=P1 ax du aa.size
 have dZ:=Dk ax dv aa.size
 have d0:=Dw ay dy ab.lt
 have d3:=Dw ay dz ac.lt
 have d4:=Dw ay dA ae.lt
 have ck:=Dw ay (Nb.symm ce) aX.lt
 have cm:=P1 ay dC aa.size
 have d5:=Dk ay dD aa.size
 have co:Cov (ins [aE,aJ,ao]) aO aE:=⟨.inl AI⟩
 have cp:Cov (ins [aE,aJ,ao]) aO aJ:=⟨.inl AJ⟩
 have d6:Cov (ins [aE,aJ,ao]) aO ao:=⟨.inl AK⟩
 have d7:=Dk ax co (Nat.le_refl _)
 have d8:=Dk ay cp (Nat.le_refl _)
 have bn:Mv [ao,aJ,aE,am,ak,aj] [ao,r_out_1,r_out_0,am,ak,aj] aO aR:=Mv.inl ag (all_cons AK (all_cons AJ (all_cons AI all_nil))) (all_cons (.inl AI) (all_cons (GY ay AJ) (all_cons (GY ax AK) (all_cons (.inl AL) (all_cons (.inl AM) (all_cons (.inl AN) all_nil))))))
 replace ⟨h1,h2,h3,h4,ab,ac,ae,aa⟩:=(sp bn ag).g8 h1 h2 h3 h4 ab ac ae aa
 have d9:=ah.len; have ec:=ah.max
 have ee:=af.len; have eg:=af.max
 refine .s<|.s<|.g<|.r 1<|.bp ((j:Int)≤6) (fun cq=>?_) (fun cq=>?_)
 ·refine .d<|.ct<|.sk<|.s<|.b 1<|.s<|.gd nil 11 fun eU bo=>?_
  replace ⟨h1,h2,h3,h4,ab,ac,ae,ah,af,ai,aa,ag⟩:=(se [ao,r_out_1,r_out_0,am,ak,aj] bo).g12 h1 h2 h3 h4 ab ac ae ah af ai aa ag
  refine .ln 0 ab id<|.r [1]<|.ln 3 ac id<|.r [4]<|.go 2<|.cl (fun bq aT=>F0 a (j:Int) (h1.ta.ext aT) (h2.ta.ext aT) (by exact p0) (w:=bq) (F:=all)) ?_
  intro bq aT
  replace ⟨h3,h4,ab,ac,ae,ah,af,ai,aa,ag⟩:=(se [ao,r_out_1,r_out_0,am,ak,aj] aT).g10 h3 h4 ab ac ae ah af ai aa ag
  rintro eV eW ⟨⟨eX,eY,rfl,aM⟩,aY⟩
  have br:=al6 ai.lt af.lt ah.lt ae.lt ac.lt ab.lt
  have cr:Gb w.heap.size bq.heap.size:=aa.size
  have hkeep_:=aY
  replace ⟨h3,h4,ab,ac,ae,ah,af,ai,aa,ag⟩:=(se [ao,r_out_1,r_out_0,am,ak,aj] aY).g10 h3 h4 ab ac ae ah af ai aa ag
  refine ⟨Ext.chg hkeep_,?_⟩
  have aM:=aM.fr br cr
  refine .go 5<|.cl (fun bu aU=>F0 b (j:Int) (h3.ta.ext aU) (h4.ta.ext aU) (by exact p1) (w:=bu) (F:=all)) ?_
  intro bu aU
  replace ⟨ab,ac,ae,ah,af,ai,aM,aa,ag⟩:=(se [ao,r_out_1,r_out_0,am,ak,aj] aU).g9 ab ac ae ah af ai aM aa ag
  rintro eZ e7 ⟨⟨e8,fa,rfl,bd⟩,aZ⟩
  have bv:=al6 ai.lt af.lt ah.lt ae.lt ac.lt ab.lt
  have cu:Gb w.heap.size bu.heap.size:=aa.size
  have hkeep_:=aZ
  replace ⟨ab,ac,ae,ah,af,ai,aM,aa,ag⟩:=(se [ao,r_out_1,r_out_0,am,ak,aj] aZ).g9 ab ac ae ah af ai aM aa ag
  refine ⟨Ext.chg hkeep_,?_⟩
  have bd:=bd.fr bv cu
  refine .go 6<|.cl (fun bw aV=>JI (BJ a (j:Int)) (BJ b (j:Int)) (aM.ta.ext aV) (bd.ta.ext aV) (by exact NI p0 _) (by exact NI p1 _) (w:=bw) (F:=all)) ?_
  intro bw aV
  replace ⟨ab,ac,ae,ah,af,ai,aa,ag⟩:=(se [ao,r_out_1,r_out_0,am,ak,aj] aV).g8 ab ac ae ah af ai aa ag
  rintro fb fd ⟨⟨fe,rfl,⟨dE,dF,rfl,ar⟩⟩,ba⟩
  have bz:=al6 ai.lt af.lt ah.lt ae.lt ac.lt ab.lt
  have cw:Gb w.heap.size bw.heap.size:=aa.size
  have hkeep_:=ba
  replace ⟨ab,ac,ae,ah,af,ai,aa,ag⟩:=(se [ao,r_out_1,r_out_0,am,ak,aj] ba).g8 ab ac ae ah af ai aa ag
  refine ⟨Ext.chg hkeep_,?_⟩
  have ar:=ar.fr bz cw
  refine .r [7,8] ?_
  cases en:(CG (BJ a (j:Int)) (BJ b (j:Int))).2
  ·refine .r [9,10]<|.d fun ff bA=>?_
   replace ⟨ab,ac,ae,ah,af,ai,ar,aa,ag⟩:=(se [ao,r_out_1,r_out_0,am,ak,aj] bA).g9 ab ac ae ah af ai ar aa ag
   refine .r 1<|.d<|.s<|.s<|.g<|.r 2<|.d<|.ct<|.s<|.g<|.r 1<|.sc [AH,AH] ae fun fg bB cx cy=>?_
   replace ⟨ab,ac,ah,af,ai,ar,aa⟩:=(so [ao,r_out_1,r_out_0,am,ak,aj] bB).g7 ab ac ah af ai ar aa
   exact .r 1<|.d<|.r2 func123 results123 (.bx cx) (.t (.bool false)) ⟨⟨_,(Be rfl (AG (by exact (congrArg Prod.snd (RR (k:=j) AB AB ‹_›)).symm))),(VS.of (y:=(⟨([]:List Int),([]:List (List Row))⟩:Prt)) ⟨_,rfl,⟨_,_,_,_,_,_,rfl,(RepS.Ba _ _ none 0 AE),(RepS.Ba _ _ none 0 AE)⟩⟩ (by exact (congrArg Prod.fst (RR (k:=j) AB AB ‹_›)).symm))⟩,aa⟩
  refine .r [9,10]<|.d fun fi bC=>?_
  replace ⟨ab,ac,ae,ah,af,ai,ar,aa,ag⟩:=(se [ao,r_out_1,r_out_0,am,ak,aj] bC).g9 ab ac ae ah af ai ar aa ag
  refine .r 1<|.d<|.s<|.s<|.g<|.r 2<|.d<|.cf<|.sk<|.s<|.g<|.r 2<|.bp (((((CG (BJ a (j:Int)) (BJ b (j:Int))).1).length):Int) > 0) (fun cz=>?_) (fun cz=>.d<|.cf<|.sk<|.ib 1<|.g<|.r 1<|.it ((j:Int)+1)<|.r 1<|.d<|aS (j+1,az,r_out_0,n_out_0,c_out_0,aA,r_out_1,n_out_1,c_out_1) _ _ ⟨AA,AA,AA,AA,AA,trivial⟩ ⟨ag,ah,ax,af,ay,bm,ai,AB,AB,AB,AB,(by exact WN ‹_› ‹_› AB ‹_› ‹_› ‹_›),(by exact WQ ‹_› ‹_› AB ‹_› ‹_› ‹_›),(by exact PI ‹_› AB ‹_›)⟩ (by (simp only []; omega)))
  refine .d<|.ct<|.s<|.g<|.r 1<|.lb ai<|.r 1<|.ns 1 3 [vI (j:Int)] fun bY fj aB bD cA cB=>?_
  have cC:=Ab aB ab.lt
  have cD:=Ab aB ac.lt
  have cE:=Ab aB ae.lt
  have bE:=Ab aB ah.lt
  have cF:=Ab aB af.lt
  have cG:=Ab aB ai.lt
  have cH:=Bq aB aa.size
  replace ⟨ab,ac,ae,ah,af,ai,ar,aa,ag⟩:=(se [ao,r_out_1,r_out_0,am,ak,aj] bD).g9 ab ac ae ah af ai ar aa ag
  have bg:nin (ge w.heap.size) [ao,r_out_1,r_out_0,am,ak,aj] bY∧bY≠r_out_0:=Fv cH (all_cons cG (all_cons cF (all_cons bE (all_cons cE (all_cons cD (all_cons cC all_nil)))))) bE
  refine RG.DJ (T:=33) (ty:=33) (y:=(j:Int)) ah cA AA AA rfl bg AB fun aP bZ fm aq aH bF=>?_
  have cI:=Bz aH (Nb.symm bm) af.lt
  have eB:=Bz aH ci ai.lt
  have cJ:=Jd aH ax ag.size
  replace ⟨ab,ac,ae,af,ai,ar,aa,ag⟩:=(sa [ao,r_out_1,r_out_0,am,ak,aj] bF aH).g8 ab ac ae af ai ar aa ag
  replace aq:=aq.rn r_out_0
  have eC:=aq.len
  refine .r 1<|.ss 0 (vS aP (n_out_0+1) bZ) ai fun fp bG aC cK=>?_
  replace ⟨ab,ac,ae,aq,af,ar,aa,ag⟩:=(so [ao,r_out_1,aP,am,ak,aj] bG).g8 ab ac ae aq af ar aa ag
  refine .d<|.g<|.r 1<|.lb aC<|.r 1<|.ns 1 65 [.slice dE (((CG (BJ a (j:Int)) (BJ b (j:Int))).1).length) dF] fun b0 fq aD bH cL cM=>?_
  have cN:=Ab aD ab.lt
  have cO:=Ab aD ac.lt
  have cP:=Ab aD ae.lt
  have cQ:=Ab aD aq.lt
  have bI:=Ab aD af.lt
  have cR:=Ab aD aC.lt
  have cS:=Bq aD aa.size
  replace ⟨ae,aq,af,aC,ar,aa,ag⟩:=(se [ao,r_out_1,aP,am,ak,aj] bH).g7 ae aq af aC ar aa ag
  have bh:nin (ge w.heap.size) [ao,r_out_1,aP,am,ak,aj] b0∧b0≠r_out_1:=Fv cS (all_cons cR (all_cons bI (all_cons cQ (all_cons cP (all_cons cO (all_cons cN all_nil)))))) bI
  refine RG.DJ (T:=102) (ty:=102) (y:=(CG (BJ a (j:Int)) (BJ b (j:Int))).1) af cL AA AA ⟨_,_,_,rfl,ar.oi⟩ bh AB fun bJ b6 fu aF aI bK=>?_
  have cT:=Bz aI (Nb.symm cI) aq.lt
  have eE:=Bz aI ck aC.lt
  have cU:=Jd aI ay ag.size
  replace ⟨ae,aq,aC,aa,ag⟩:=(sa [ao,r_out_1,aP,am,ak,aj] bK aI).g5 ae aq aC aa ag
  replace aF:=aF.rn r_out_1
  have eF:=aF.len
  refine .r 1<|.ss 1 (vS bJ (n_out_1+1) b6) aC fun fv bL cV cW=>?_
  replace ⟨ae,aq,aF,aa,ag⟩:=(so [ao,bJ,aP,am,ak,aj] bL).g5 ae aq aF aa ag
  exact .d<|.ib 1<|.g<|.r 1<|.it ((j:Int)+1)<|.r 1<|.d<|aS (j+1,(az++[(j:Int)]),aP,n_out_0+1,bZ,(aA++[(CG (BJ a (j:Int)) (BJ b (j:Int))).1]),bJ,n_out_1+1,b6) _ _ ⟨AA,AA,AA,AA,AA,trivial⟩ ⟨ag,aq,cJ,aF,cU,cT,cV,AB,AB,AB,AB,(by exact WM ‹_› ‹_› AB ‹_› ‹_› ‹_›),(by exact WO ‹_› ‹_› AB ‹_› ‹_› ‹_›),(by exact PI ‹_› AB ‹_›)⟩ (by (simp only []; omega))
 refine .d<|.cf<|.x 0 rfl<|.s<|.g<|.ln ai<|.sc [vS r_out_0 n_out_0 c_out_0,vS r_out_1 n_out_1 c_out_1] ae fun b7 bM cX cY=>?_
 replace ⟨ah,af,aa⟩:=(so [ao,r_out_1,r_out_0,am,ak,aj] bM).g3 ah af aa
 refine .r 1<|.d ?_
 have bN:=ah.sl cj
 replace af:=(sd b7 [ao,r_out_1,r_out_0,am,ak,aj] r_out_0).g1 af
 have dG:=af.sl cm
 replace bN:=(sd b7 [ao,r_out_1,am,ak,aj] r_out_1).g1 bN
 exact .r2 func123 results123 (.bx cX) (.t (.bool true)) ⟨⟨_,(Be rfl (AG (by exact (RT (k:=j) AB ‹_› ‹_› ‹_› ‹_› ‹_›).2))),(VS.of (y:=(⟨az,aA⟩:Prt)) ⟨_,rfl,⟨_,_,_,_,_,_,rfl,bN.w1,dG.w1⟩⟩ (by exact (RT (k:=j) AB ‹_› ‹_› ‹_› ‹_› ‹_›).1))⟩,aa⟩
end Go.Proofs.YtfninflnngpchaaGreatDoor
namespace Go.Proofs.YtfninflnngpchaaGreatDoor
theorem PJ {P:Program}{T ty t:TypeId}{sz:Nat}{w:World}{r i c m c':Nat}{a2:Option Addr}{cs vs:List Value}(hT:Fu P T t sz=true) (hB:Box w r t cs) (hsrc:0< m→∃ x,a2=some x∧Has w x vs) (hvs:vs.length=m * sz) (hroom:i+m≤c) (hfit:i * sz+vs.length≤cs.length) (hone:∀ v∈vs,Dc v=true) :
 ∃ w',(Builtin.append_ #[T,T] ty #[.slice (some ⟨r,0,none⟩) i c,.slice a2 m c']).run P w=.ok (.slice (some ⟨r,0,none⟩) (i+m) c) w'∧Box w' r t (BE cs (i * sz) vs)∧Chg (one r) w w':=by
 obtain ⟨g1,inf,z,hinf,hsz,_,_,_⟩:=FH hT
 by_cases hm:m=0
 ·subst hm
  have:vs=[]:=List.length_eq_zero_iff.1 AB
  subst this
  refine ⟨w,Gu g1 hinf _ _ _ _ _ AB w,?_,Chg.refl _ _⟩
  unfold BE
  simpa using hB
 ·obtain ⟨x,rfl,hx⟩:=hsrc AB
  unfold Box at hB
  have hr:=run_append_room (P:=P) w T ty t inf g1 hinf r i c cs.toArray hB x m c' vs (by rw [hsz]; exact hvs) hx (fun u hu=>Oe (hone u hu)) hroom (by rw [hsz]; simpa using hfit)
  rw [hsz] at hr
  have hset:(w.setRow r (BE cs (i * sz) vs).toArray).heap[r]? = some (.cells (BE cs (i * sz) vs).toArray t (0,0)):=setRow_heap w r cs.toArray _ t _ hB
  refine ⟨_,hr,hset,⟨rfl,rfl,rfl,by simp [World.setRow],fun k _ hn=>setRow_other w r k _ hn⟩⟩
def WR (P:Program) (T t:TypeId) (sz:Nat):Bool :=
 (match P.underlying T with | some (.slice e)=>Nat.beq e t | _=>false) &&
 (match P.info? t with | some i=>(match i.zero with | some z=>Nat.beq z.cells.size sz&&z.cells.toList.all Dc | none=>false) | none=>false)
theorem PK {P:Program}{T ty t:TypeId}{sz:Nat}{w:World}{r o c:Nat}{cs:List Value}(hT:WR P T t sz=true) (hB:Box w r t cs) (hfit:o+sz≤cs.length) :
 ∃ vs w',(Builtin.clear_ #[T] ty #[.slice (some ⟨r,o,none⟩) 1 c]).run P w=.ok (.tuple #[]) w'∧vs.length=sz∧Box w' r t (BE cs o vs)∧Chg (one r) w w':=by
 unfold WR at hT
 simp only [AW] at hT
 obtain ⟨h1,h2⟩:=hT
 split at h1
 ·rename_i e he
  have:=Nat.eq_of_beq_eq_true h1
  subst this
  split at h2
  ·rename_i inf hinf
   split at h2
   ·rename_i z hz
    simp only [AW,List.all_eq_true] at h2
    have hsz:=Nat.eq_of_beq_eq_true h2.1
    have hl:(Builtin.zeroCells z.cells 1).toList.length=sz:=by rw [Array.length_toList,size_zeroCells,hsz]; omega
    have ho:∀ v∈(Builtin.zeroCells z.cells 1).toList,Dc v=true:=fun v hv=>by
     unfold Builtin.zeroCells at hv
     simp only [Array.toList_map,List.mem_map,Array.toList_range,List.mem_range] at hv
     obtain ⟨k,hk,rfl⟩:=hv
     have hk2:k % z.cells.size< z.cells.size:=Nat.mod_lt _ AB
     refine h2.2 _ ?_
     rw [getElem!_pos z.cells _ hk2]
     exact Array.getElem_mem_toList hk2
    obtain ⟨w',g1,g2,g3,_⟩:=hB.Ns (P:=P) (Builtin.zeroCells z.cells 1).toList (o:=o) (i:=0) AB ho
    refine ⟨_,w',?_,hl,g2,g3⟩
    have hv:(zeroValue e).run P w=.ok z w:=by simp [zeroValue,typeInfo,hinf,hz,go_sem]
    unfold Builtin.clear_
    simp only [List.getElem?_toArray,List.getElem?_cons_zero]
    rw [AX (run_underlying he w)]
    simp only []
    rw [AX hv,AX g1]
    rfl
   ·cases h2
  ·cases h2
 ·cases h1
section
variable {P:Program} {n:Nat} {K:Env→World→Prop} {ops:Array Oper} {j:Nat} {e:Env} {w:World}
theorem RG.clear {ats:List TypeId}{ty:TypeId}{args:List Value}{v:Value}{w':World}(h:Cc n ops j e=some (.clear,ats,ty,args))
 (hr:(Builtin.clear_ ats.toArray ty args.toArray).run P w=.ok v w') (H:RG P n K ops (j+1) (Aj e (Ad ops j).dst v) w'):RG P n K ops j e w:=by
 obtain ⟨hg,h⟩:=CY h
 refine RG.val (v:=v) hg ?_ H
 split at h
 ·rename_i c hop
  split at h
  ·rename_i b hcal
   simp only [Option.some.injEq,Prod.mk.injEq] at h
   obtain ⟨rfl,rfl,rfl,rfl⟩:=h
   have ha:(c.args.toList.map (ev e)).toArray=c.args.map (ev e):=by apply Array.toList_inj.1; simp
   rw [ha,Array.toArray_toList] at hr
   simp only [execOp,hop,resolve,hcal]
   exact AX hr
  ·cases h
 ·cases h
def ZK (n:Nat) (ops:Array Oper) (j:Nat) (e:Env):Option (TypeId × Value × Value × Value × Value) :=
 bif CP n ops j e then
  match (Ad ops j).op with
  | .slice t x (some lo) (some hi) (some mx)=>some (t,ev e x,ev e lo,ev e hi,ev e mx)
  | _=>none
 else none
theorem RG.ZL {t:TypeId}{sz:Nat}{a:Option Addr}{len cap:Nat}{k k2 k3:IntKind}{i1 i2 i3:Int}(l h' m:Nat) (h:ZK n ops j e=some (t,.slice a len cap,.int k i1,.int k2 i2,.int k3 i3)) (ht:Ki P t sz=true) (e1:i1=(l:Int)) (e2:i2=(h':Int)) (e3:i3=(m:Int)) (hlh:l≤h') (hh:h'≤m) (hm:m≤cap)
 (H:∀ v,RG P n K ops (j+1) (Aj e (Ad ops j).dst v) w):RG P n K ops j e w:=by
 obtain ⟨hg,h⟩:=CY h
 unfold Ki at ht
 split at ht
 ·rename_i el hu
  split at ht
  ·rename_i inf hinf
   have hun:(underlying t).run P w=.ok (.slice el) w:=by simp [underlying,hu,go_sem]
   refine RG.val (v:=.slice (if m=l then a else a.map (·.add (l * inf.size))) (h' - l) (m - l)) hg ?_ (H _)
   split at h
   ·rename_i t' x lo hi mx hop
    simp only [Option.some.injEq,Prod.mk.injEq] at h
    obtain ⟨rfl,hx,hlo,hhi,hmx⟩:=h
    simp only [execOp,hop]
    refine AX ?_
    simp only [Option.map_some,hx,hlo,hhi,hmx]
    unfold Instr.sliceAt
    rw [AX hun]
    simp only []
    unfold Instr.slice
    rw [AX hun]
    simp only []
    have hb:(Instr.sliceBounds true len cap (some (.int k i1)) (some (.int k2 i2)) (some (.int k3 i3))).run P w=.ok (l,h',m) w:=by
     unfold Instr.sliceBounds
     simp only []
     rw [AX (Eg e3 hm w),AX (Eg e2 hh w),AX (Eg e1 hlh w)]
     rfl
    rw [AX hb]
    simp only []
    rw [AX (show (sizeOf el).run P w=.ok inf.size w by simp [sizeOf,typeInfo,hinf,go_sem])]
    rfl
   ·cases h
  ·cases ht
 ·cases ht
end
theorem GA.ZM {P:Program}{S:Nat→Prop}{n m:Nat}{L:Env→World→Prop}{ops:Array Oper}{l:List Nat}{e:Env}{w:World}{i:Nat}{t:TypeId}{sz r len cap:Nat}{lo hi:Option Value}(l' h':Nat) (hb:gB n m ops l i=true) (h:DP n ops i e=some (t,.slice (some ⟨r,0,none⟩) len cap,lo,hi)) (ht:Ki P t sz=true) (hlo:bnd lo 0 l') (hhi:bnd hi len h') (hlh:l'≤h') (hh:h'≤cap)
 (H:∀ a2 c2,(0< h' - l'→a2=some ⟨r,l' * sz,none⟩)→GA P S n m L ops (i::l) (Aj e (Ad ops i).dst (.slice a2 (h' - l') c2)) w):GA P S n m L ops l e w:=by
 refine GA.Ma hb (fun w=>?_) (H (if cap=l' then some ⟨r,0,none⟩ else some ⟨r,l' * sz,none⟩) (cap - l') (fun hp=>by rw [if_neg AB]))
 have h1:=D2 h (Hq ht hlo hhi hlh hh w)
 simp only [Option.map_some,add_lit,Nat.zero_add] at h1
 exact h1
theorem Own.X5 {α:Type}[Rep α] {w:World}{r:Nat}{t:TypeId}{F:Nat→Prop}{n c:Nat}{xs:List α}(h:Own w r t F n c xs):∃ cs,Box w r t cs∧cs.length=c * Rep.sz α:=by
 obtain ⟨cur,h1,h2⟩:=h.row
 exact ⟨cur.toList,by unfold Box; simpa using h1,by simpa using h2⟩
theorem Own.UK {α:Type}[Rep α] {w w':World}{r:Nat}{t:TypeId}{F:Nat→Prop}{n c i:Nat}{xs:List α}{cs cs':List Value}(h:Own w r t F n c xs) (hx:Chg (one r) w w') (hB:Box w r t cs) (hB':Box w' r t cs') (hl:cs'.length=c * Rep.sz α) (hi:i< n)
 (hp:∀ p,p< (n - 1) * Rep.sz α→cs'[p]? = if p< i * Rep.sz α then cs[p]? else cs[p+Rep.sz α]?):Own w' r t F (n - 1) c (xs.take i++xs.drop (i+1)):=by
 have hn:=h.len
 have hle:=h.le
 have hcap:=h.cap
 unfold Box at hB hB'
 refine ⟨by rw [List.length_append,List.length_take,List.length_drop]; omega,by omega,hcap,⟨cs'.toArray,hB',by simpa using hl⟩,fun k x hk=>?_⟩
 have hfr:∀ b,b< w.heap.size→F b∧b≠r→(F b∧b≠r)∧w'.heap[b]? = w.heap[b]? := fun b hb hF=>⟨hF,hx.block b hb (fun e=>hF.2 e)⟩
 have hk2:k< (xs.take i++xs.drop (i+1)).length:=(List.getElem?_eq_some_iff.1 hk).1
 rw [List.length_append,List.length_take,List.length_drop] at hk2
 by_cases hki:k< i
 ·rw [List.getElem?_append_left (by rw [List.length_take]; omega),List.getElem?_take,if_pos hki] at hk
  obtain ⟨c1,g1,g2⟩:=h.elem k x hk
  refine ⟨c1,Rep.frame g1 hfr,fun u v hv=>?_⟩
  have h3:=g2 u v hv
  have hu:u< Rep.sz α:=by have:=(List.getElem?_eq_some_iff.1 hv).1; rw [Rep.len g1] at this; exact this
  have hm:k * Rep.sz α+Rep.sz α≤i * Rep.sz α:=by rw [← Nat.succ_mul]; exact Nat.mul_le_mul_right _ hki
  have hm2:i * Rep.sz α≤(n - 1) * Rep.sz α:=Nat.mul_le_mul_right _ AB
  rw [add_lit] at h3 ⊢
  simp only [World.cell?,hB] at h3
  simp only [World.cell?,hB']
  have:=hp (k * Rep.sz α+u) AB
  rw [if_pos AB] at this
  simpa [this] using h3
 ·rw [List.getElem?_append_right (by rw [List.length_take]; omega),List.length_take,Nat.min_eq_left AB,List.getElem?_drop] at hk
  rw [show i+1+(k - i)=k+1 by omega] at hk
  obtain ⟨c1,g1,g2⟩:=h.elem (k+1) x hk
  refine ⟨c1,Rep.frame g1 hfr,fun u v hv=>?_⟩
  have h3:=g2 u v hv
  have hu:u< Rep.sz α:=by have:=(List.getElem?_eq_some_iff.1 hv).1; rw [Rep.len g1] at this; exact this
  have hm:k * Rep.sz α+Rep.sz α≤(n - 1) * Rep.sz α:=by rw [← Nat.succ_mul]; exact Nat.mul_le_mul_right _ AB
  have hm2:i * Rep.sz α≤k * Rep.sz α:=Nat.mul_le_mul_right _ AB
  rw [add_lit] at h3 ⊢
  simp only [World.cell?,hB] at h3
  simp only [World.cell?,hB']
  have:=hp (k * Rep.sz α+u) AB
  rw [if_neg AB] at this
  rw [Nat.succ_mul,show k * Rep.sz α+Rep.sz α+u=k * Rep.sz α+u+Rep.sz α by omega] at h3
  simpa [this] using h3
theorem NJ {cs v1 v2:List Value}{n c i sz:Nat}(hl:cs.length=c * sz) (hi:i< n) (hn:n≤c) (h1:v1=(cs.drop ((i+1) * sz)).take ((n - (i+1)) * sz)) (h2:v2.length=sz) :
 (BE (BE cs (i * sz) v1) ((n - 1) * sz) v2).length=c * sz∧∀ p,p< (n - 1) * sz→(BE (BE cs (i * sz) v1) ((n - 1) * sz) v2)[p]? = if p< i * sz then cs[p]? else cs[p+sz]? := by
 have m1:(i+1) * sz+(n - (i+1)) * sz=n * sz:=by rw [← Nat.add_mul]; congr 1; omega
 have m2:(n - 1) * sz+sz=n * sz:=by rw [← Nat.succ_mul]; congr 1; omega
 have m3:n * sz≤c * sz:=Nat.mul_le_mul_right _ hn
 have m4:(i+1) * sz=i * sz+sz:=Nat.succ_mul _ _
 have l1:v1.length=(n - (i+1)) * sz:=by rw [h1,List.length_take,List.length_drop]; omega
 have l2:(BE cs (i * sz) v1).length=c * sz:=by rw [EM AB]; exact hl
 refine ⟨by rw [EM AB]; exact l2,fun p hp=>?_⟩
 unfold BE
 rw [List.append_assoc,List.getElem?_append_left (by rw [List.length_take]; unfold BE at l2; omega),List.getElem?_take,if_pos hp,List.append_assoc]
 by_cases hpi:p< i * sz
 ·rw [if_pos hpi,List.getElem?_append_left (by rw [List.length_take]; omega),List.getElem?_take,if_pos hpi]
 ·rw [if_neg hpi,List.getElem?_append_right (by rw [List.length_take]; omega),List.length_take,Nat.min_eq_left AB,List.getElem?_append_left AB,h1,List.getElem?_take,if_pos AB,List.getElem?_drop]
  congr 1
  omega
variable {w:World} {F:Nat→Prop}
theorem WS {x:Prt}{cs:List Value}(h:Rep.rep w F x cs):∀ v∈cs,Dc v=true:=Rep.flat h
theorem Own.Dc {w:World}{r:Nat}{t:TypeId}{F:Nat→Prop}{n c i:Nat}{xs:List Prt}{cs:List Value}(h:Own w r t F n c xs) (hB:Box w r t cs):∀ v,i+(n - i)≤n→v∈(cs.drop (i * 2)).take ((n - i) * 2)→Go.Proofs.YtfninflnngpchaaGreatDoor.Dc v=true:=by
 intro v hin hv
 obtain ⟨k,hk⟩:=List.mem_iff_getElem?.1 hv
 rw [List.getElem?_take] at hk
 split at hk
 ·rename_i hlt
  rw [List.getElem?_drop] at hk
  have hn:=h.len
  have hj:i+k / 2< xs.length:=by omega
  obtain ⟨c1,g1,g2⟩:=h.elem (i+k / 2) xs[i+k / 2] (AU hj)
  have hl:c1.length=2:=Rep.len g1
  have hk2:k % 2< c1.length:=by omega
  have h3:=g2 (k % 2) c1[k % 2] (AU hk2)
  have hz:Rep.sz Prt=2:=rfl
  unfold Box at hB
  rw [add_lit,hz] at h3
  simp only [World.cell?,hB] at h3
  have e:(i+k / 2) * 2+k % 2=i * 2+k:=by omega
  rw [e] at h3
  have h4:cs[i * 2+k]? = some c1[k % 2]:=by simpa using h3
  rw [hk] at h4
  cases h4
  exact WS g1 _ (List.getElem_mem hk2)
 ·cases hk
theorem Sc:∀ (is:List Int) (bs:List (List Row)) (o:Option Int),Br o is bs=true→is.length=bs.length→∀ b∈bs,Bi b=true:=by
 intro is
 induction is with
 | nil =>
   intro bs o _ hl b hb
   cases bs with
   | nil=>cases hb
   | cons c cs=>simp at hl
 | cons i is ih =>
   intro bs o h hl b hb
   cases bs with
   | nil=>cases hb
   | cons c cs =>
     unfold Br at h
     simp only [AW] at h
     rcases List.mem_cons.1 hb with rfl | hb
     ·exact h.1.2
     ·exact ih cs (some i) h.2 (by simpa using hl) b hb
theorem GO {p:Prt}(h:Av p=true) (id:Int):Bi (partOf p id)=true:=by
 rcases Je id p.ids p.blocks with h1 | h1
 ·unfold partOf; rw [h1]; rfl
 ·unfold Av at h
  simp only [AW,decide_eq_true_eq] at h
  exact Sc p.ids p.blocks none h.2 h.1 _ h1
theorem QV {id t:Int}:∀ (ps:List Prt) (o:List Row),(∀ p∈ps,PrtI p)→Blk o→((look t o).isSome=true∨∃ p∈ps,(look t (partOf p id)).isSome=true)→(look t (ps.foldl (Bv id) o)).isSome=true:=by
 intro ps
 induction ps with
 | nil =>
   rintro o _ _ (h | ⟨p,hp,_⟩)
   ·exact h
   ·cases hp
 | cons p ps ih =>
   intro o hI ho h
   have hp:Blk (partOf p id):=(hI p AD).of id
   refine ih _ (fun q hq=>hI q (by simp [hq])) (ho.merge hp) ?_
   have e:look t (Bv id o p)=(look t (partOf p id)).or (look t o):=Cj t o ho hp
   rcases h with h | ⟨q,hq,h⟩
   ·refine .inl ?_
    rw [e]
    cases look t (partOf p id) with
    | none=>exact h
    | some x=>rfl
   ·rcases List.mem_cons.1 hq with rfl | hq
    ·refine .inl ?_
     rw [e]
     obtain ⟨x,hx⟩:=Option.isSome_iff_exists.1 h
     rw [hx]; rfl
    ·exact .inr ⟨q,hq,h⟩
theorem JJ {p:Prt}{n:Int}(h:Bn p n=true):∀ i∈p.ids,i≤n:=by
 unfold Bn at h
 simp only [AW] at h
 obtain ⟨h1,h2⟩:=h
 unfold Av at h1
 simp only [AW,decide_eq_true_eq] at h1
 have key:∀ (is:List Int) (bs:List (List Row)) (o:Option Int),Br o is bs=true→(∀ q,o=some q→∀ i∈is,q< i)∧∀ l,is.getLast? = some l→∀ i∈is,i≤l:=by
  intro is
  induction is with
  | nil=>intro bs o _; exact ⟨fun _ _ i hi=>(by cases hi),fun l hl=>(by simp at hl)⟩
  | cons x xs ih =>
    intro bs o hg
    cases bs with
    | nil=>simp [Br] at hg
    | cons b bs =>
      simp only [Br,AW] at hg
      obtain ⟨k1,k2⟩:=ih bs (some x) hg.2
      have hx:∀ q,o=some q→q< x:=fun q hq=>by
       have:=hg.1.1.1.2
       rw [hq] at this
       simpa using this
      refine ⟨fun q hq i hi=>?_,fun l hl i hi=>?_⟩
      ·rcases List.mem_cons.1 hi with rfl | hi
       ·exact hx q hq
       ·have:=k1 x rfl i hi; have:=hx q hq; omega
      ·cases hc:xs.getLast? with
       | none =>
         have:xs=[]:=List.getLast?_eq_none_iff.1 hc
         subst this
         simp at hl hi
         omega
       | some l2 =>
         have e:(x::xs).getLast? = some l2:=by rw [List.getLast?_cons,hc]; rfl
         rw [e] at hl
         cases hl
         rcases List.mem_cons.1 hi with rfl | hi
         ·have:=k1 i rfl l (List.mem_of_getLast? hc); omega
         ·exact k2 l hc i hi
 intro i hi
 cases hl:p.ids.getLast? with
 | none=>rw [hl] at h2; cases h2
 | some l =>
   rw [hl] at h2
   have:=(key p.ids p.blocks none h1.2).2 l hl i hi
   have h3:l≤n:=by simpa using h2
   omega
theorem KC {p:Prt}{id:Int}(h:∀ i∈p.ids,i< id):partOf p id=[]:=by
 have key:∀ (is:List Int) (bs:List (List Row)),(∀ i∈is,i< id)→Bd id is bs=[]:=by
  intro is
  induction is with
  | nil=>intro bs _; unfold Bd; rfl
  | cons i is ih =>
    intro bs h
    cases bs with
    | nil=>unfold Bd; rfl
    | cons b bs =>
      unfold Bd
      rw [if_neg (by have:=h i AD; simp; omega)]
      exact ih bs (fun j hj=>h j (by simp [hj]))
 exact key _ _ h
theorem L8 {s:Sto}(h:SD s) (hk:Aa s=true){x y:Prt}(hx:x∈s.parts) (hy:y∈s.parts):CE x y=(BF x y,true):=by
 have hK:=StoK.of h hk
 have ox:=(hK.part x hx).2
 have oy:=(hK.part y hy).2
 unfold CE
 rw [if_pos]
 refine ⟨ox,oy,?_⟩
 unfold okM
 rw [List.all_eq_true]
 intro i hi
 rw [List.mem_range] at hi
 have e1:BJ x ((i:Int)+1)=partOf x ((i:Int)+1):=by unfold BJ; rw [if_pos ox]
 have e2:BJ y ((i:Int)+1)=partOf y ((i:Int)+1):=by unfold BJ; rw [if_pos oy]
 rw [e1,e2]
 have b1:=GO ox ((i:Int)+1)
 have b2:=GO oy ((i:Int)+1)
 have hl:(Bf (partOf x ((i:Int)+1)) (partOf y ((i:Int)+1))).length≤24:=by
  unfold Aa at hk
  simp only [AW,decide_eq_true_eq,List.all_eq_true,List.mem_range,E9] at hk
  by_cases hin:i< s.idx.names.length
  ·have bb:=(Kc b1).merge (Kc b2)
   have hP:Blk (s.parts.foldl (Bv ((i:Int)+1)) []):=GM h.part Blk.nil
   refine Nat.le_trans (OC bb (b:=rowsOf s ((i:Int)+1)) ?_ (fun t ht=>?_)) (hk.2 i hin)
   ·exact (EP 0 _ s.mem _ hK.row hP).2
   ·refine RE hK _ t (.inl (QV s.parts [] h.part Blk.nil (.inr ?_)))
    rw [Cj t _ (Kc b1) (Kc b2)] at ht
    cases hc:look t (partOf y ((i:Int)+1)) with
    | some q=>exact ⟨y,hy,by rw [hc]; rfl⟩
    | none=>rw [hc] at ht; exact ⟨x,hx,ht⟩
  ·have g:=fun p hp=>KC (p:=p) (id:=(i:Int)+1) (fun j hj=>by have:=JJ (hk.1.1.2 p hp) j hj; omega)
   rw [g x hx,g y hy]
   decide
 unfold CG
 rw [if_pos ⟨b1,b2,by omega⟩]
theorem L9 {s:Sto}{i:Int}(_h:SD s) (hk:Aa s=true) (h1:inR i 0 ((s.parts.length:Int) - 2)=false):BR s i=(Ah s,false):=by
 rw [Gq hk]; exact La h1
theorem PL {s:Sto}{i:Int}{x y:Prt}(h:SD s) (hk:Aa s=true) (h1:inR i 0 ((s.parts.length:Int) - 2)=true) (hx:s.parts[i.toNat]? = some x) (hy:s.parts[(i+1).toNat]? = some y) :
 BR s i=(⟨(Ah s).idx,[]++(((Ah s).parts.set i.toNat (CE x y).1).take (i.toNat+1)++((Ah s).parts.set i.toNat (CE x y).1).drop (i.toNat+1+1)),(Ah s).mem⟩,true):=by
 have h2:=BW h1
 have hx2:=(List.getElem?_eq_some_iff.1 hx).1
 rw [Gq hk]
 have e:=Lc (s:=Ah s) (a:=i) (x:=x) (y:=y) h1 hx hy
 rw [e,L8 h hk (AV hx) (AV hy)]
 have ep:(Ah s).parts=s.parts:=rfl
 rw [ep]
 have e2:(i+2).toNat=i.toNat+2:=by omega
 congr 2
 rw [e2,List.nil_append,List.nil_append,List.drop_zero,List.take_length]
 congr 1
 ·rw [List.take_add_one,List.take_set_of_le (Nat.le_refl _),List.getElem?_set_self (by exact hx2)]
  rfl
 ·rw [List.drop_set_of_lt AB]
end Go.Proofs.YtfninflnngpchaaGreatDoor
namespace Go.Proofs.YtfninflnngpchaaGreatDoor
set_option maxRecDepth 100000
set_option maxHeartbeats 4000000
variable {w:World} {F:Nat→Prop}
theorem Kw {r n c i:Nat}{xs:List Prt}{a b:Int}(ho:Own w r 104 F n c xs) (ha:a=(i:Int)) (hb:b=(i:Int)+1) (hi:i< n) (hn:n≤1000000):Calls Tryz.prog 125 [.slice (some ⟨r,0,none⟩) n c,.int .i64 a,.int .i64 b].toArray w (Am fun rv w'=>(rv=.slice (some ⟨r,0,none⟩) (n - 1) c∧Own w' r 104 F (n - 1) c (xs.take i++xs.drop (i+1)))∧Chg (one r) w w'):=by
 subst ha hb
 refine goT func125 ?_
 have hle:=ho.le
 obtain ⟨cs,hB,hl⟩:=ho.X5
 have hz:Rep.sz Prt=2:=rfl
 rw [hz] at hl
 refine .s<|.g<|.r 1<|.d<|.s<|.g<|.r 5<|RG.ZL (t:=28) (k:=.i64) (k2:=.i64) (k3:=.i64) (a:=some ⟨r,0,none⟩) (len:=n) (cap:=c) (i1:=(i:Int)) (i2:=(i:Int)+1) (i3:=(n:Int)) (sz:=2) i (i+1) n AA AA rfl AB rfl AB AB hle fun v_=>.d<|.s<|.s<|.g<|.r 2<|.eq (i:Int) ((i:Int)+1) (fun h=>absurd (show False by omega) id) fun _=>.d<|.cf<|.sk<|.s<|.g<|.r 3<|.d<|.s<|.gd (one r) 7 fun w1 hx1=>?_
 refine .r [0,1]<|GA.H5 (i:=2) (t:=28) (r:=r) (o:=0) (len:=n) (cap:=c) (lo:=none) (hi:=some (vI (i:Int))) (sz:=2) 0 i AA AA AA (.inl ⟨rfl,rfl⟩) (.inr ⟨_,_,rfl,rfl⟩) AB AB AB<|.r [3,4]<|GA.ZM (i:=5) (t:=28) (r:=r) (len:=n) (cap:=c) (lo:=some (vI ((i:Int)+1))) (hi:=none) (sz:=2) (i+1) n AA AA AA (.inr ⟨_,_,rfl,by omega⟩) (.inl ⟨rfl,rfl⟩) AB AB fun a2 c2 h2=>?_
 refine .go 6<|GE.append (T:=28) (ty:=28) (args:=[.slice (some ⟨r,0,none⟩) i c,.slice a2 (n - (i+1)) c2]) AA fun w2 hx2=>?_
 have hx12:Ext w w2:=hx1.trans hx2
 have m1:(i+1) * 2+(n - (i+1)) * 2=n * 2:=by omega
 have hB2:=hB.ext hx12
 obtain ⟨w3,hr,hB3,hx3⟩:=PJ (P:=Tryz.prog) (T:=28) (ty:=28) (t:=104) (sz:=2) (i:=i) (c:=c) (m:=n - (i+1)) (c':=c2) (a2:=a2) (vs:=(cs.drop ((i+1) * 2)).take ((n - (i+1)) * 2)) AA hB2
  (fun hp=>⟨_,h2 hp,fun k u hu=>by
   rw [add_lit]
   unfold Box at hB2
   simp only [World.cell?,hB2]
   rw [List.getElem?_take] at hu
   split at hu
   ·rw [List.getElem?_drop] at hu
    simpa using hu
   ·cases hu⟩) (by rw [List.length_take,List.length_drop]; omega) AB (by rw [List.length_take,List.length_drop]; omega) (fun v hv=>ho.Dc (i:=i+1) hB v AB hv)
 refine ⟨_,w3,hr,hx3,.d fun w4 hx4=>.r 1<|.d<|.s<|.g<|.r 4<|?_⟩
 have hB4:=hB3.ext hx4
 have hlen:i+(n - (i+1))=n - 1:=by omega
 rw [hlen]
 refine RG.H5 (t:=28) (r:=r) (o:=0) (len:=n - 1) (cap:=c) (lo:=some (vI ((n - 1:Nat):Int))) (hi:=some (vI (n:Int))) (sz:=2) (n - 1) n AA AA (.inr ⟨_,_,rfl,rfl⟩) (.inr ⟨_,_,rfl,rfl⟩) AB AB AB ?_
 have h1:n - (n - 1)=1:=by omega
 rw [h1]
 have hl4:(BE cs (i * 2) ((cs.drop ((i+1) * 2)).take ((n - (i+1)) * 2))).length=c * 2:=by rw [EM (by rw [List.length_take,List.length_drop]; omega)]; exact hl
 obtain ⟨vs,w5,hr5,hv5,hB5,hx5⟩:=PK (P:=Tryz.prog) (T:=28) (ty:=0) (t:=104) (sz:=2) (o:=0+(n - 1) * 2) (c:=c - (n - 1)) AA hB4 AB
 rw [Nat.zero_add] at hB5
 have hd:=NJ (sz:=2) hl hi hle rfl hv5
 have hx:Chg (one r) w w5:=(((hx12.chg (S:=one r)).trans hx3).trans hx4.chg).trans hx5
 refine RG.clear (ats:=[28]) (ty:=0) (args:=[.slice (some ⟨r,0+(n - 1) * 2,none⟩) 1 (c - (n - 1))]) AA hr5<|.d<|.s<|.g<|.r 2<|.d<|.rt func125 results125 (.slice (some ⟨r,0,none⟩) (n - 1) c) ⟨⟨rfl,Own.UK ho hx hB hB5 (by rw [hz]; exact hd.1) hi (by rw [hz]; exact hd.2)⟩,hx⟩
end Go.Proofs.YtfninflnngpchaaGreatDoor
namespace Go.Proofs.YtfninflnngpchaaGreatDoor
set_option maxRecDepth 100000
set_option maxHeartbeats 4000000
variable {w:World} {F:Nat→Prop} {a1 a2 a3 a4:Option Addr} {n1 c1 n2 c2 n3 c3 n4 c4:Nat}
set_option maxRecDepth 100000 in
set_option maxHeartbeats 4000000 in
theorem JK (s:Sto) (at_:Int) (h1:RepS w F a1 n1 c1 s.idx.names) (h2:RepS w F a2 n2 c2 s.idx.AY) (h3:RepS w F a3 n3 c3 s.parts) (h4:RepS w F a4 n4 c4 s.mem) (p0:SD s):Calls Tryz.prog 72 [.agg #[.slice a1 n1 c1,.slice a2 n2 c2,.slice a3 n3 c3,.slice a4 n4 c4],.int .i64 at_].toArray w (Am fun rv w'=>(∃ v0,rv=.tuple #[v0,.bool ((BR s at_).2)]∧VS (fo F w.heap.size) w' ((BR s at_).1:Sto) v0)∧Ext w w'):=by
 refine goT func72 ?_
 obtain ⟨rfl,d4,h1⟩:=h1.tp
 obtain ⟨rfl,d5,h2⟩:=h2.tp
 obtain ⟨rfl,d6,h3⟩:=h3.tp
 obtain ⟨rfl,d7,h4⟩:=h4.tp
 refine .s<|.g<|.np 31 [.slice a1 s.idx.names.length c1,.slice a2 s.idx.AY.length c2,.slice a3 s.parts.length c3,.slice a4 s.mem.length c4] fun aj fm bN bh ac cV=>?_
 replace ⟨h1,h2,h3,h4⟩:=(sn [] bh bN).g4 h1 h2 h3 h4
 have aa:=bh
 refine .np 31 [AH,AH,AH,AH] fun am dC aX bO af cW=>?_
 have d8:=Ab aX ac.lt
 have d9:=aa.cn aX
 replace ⟨h1,h2,h3,h4,ac,aa⟩:=(sn [aj] bO aX).g6 h1 h2 h3 h4 ac aa
 refine .r 1<|.d<|.s<|.s<|.g<|.ln ac<|.cl (EO s h1.ta h2.ta h3.ta h4.ta p0 (w:=dC) (F:=all)) ?_
 rintro fp b9 ⟨rfl,bP⟩
 replace ⟨h1,h2,h3,h4,ac,af,aa⟩:=(se [am,aj] bP).g7 h1 h2 h3 h4 ac af aa
 cases ec:(Aa s)
 ·refine .r 1<|.d<|.ct<|.s<|.g<|.r 1<|.sc [AH,AH,AH,AH] af fun fq bQ cX cY=>?_
  replace ⟨h1,h2,h3,h4,ac,aa⟩:=(so [am,aj] bQ).g6 h1 h2 h3 h4 ac aa
  exact .r 1<|.d<|.r2 func72 results72 (.bx cX) (.t (.bool false)) ⟨⟨_,(Be rfl (AG (by rw [KB ‹_›]))),(VS.of (y:=(⟨(⟨([]:List (List Tag)),([]:List Pst)⟩:Idx),([]:List Prt),([]:List Smp)⟩:Sto)) ⟨_,rfl,⟨_,_,_,_,_,_,_,_,_,_,_,_,rfl,(RepS.Ba _ _ none 0 AE),(RepS.Ba _ _ none 0 AE),(RepS.Ba _ _ none 0 AE),(RepS.Ba _ _ none 0 AE)⟩⟩ (by rw [KB ‹_›]))⟩,aa⟩
 refine .r 1<|.d<|.cf<|.sk<|.s<|.g<|.ln ac<|.cl (Dy s h1.ta h2.ta h3.ta h4.ta p0.nm p0.nd p0.sz (w:=b9) (F:=all)) ?_
 rintro fu bi ⟨⟨cd,fv,ce,cg,fw,ci,ao,bd,cZ,ak,cj,ck,rfl,ag,ah,ai,aH,ab,aN,ee⟩,bj⟩
 have aO:=al2 af.lt ac.lt
 have aY:Gb w.heap.size b9.heap.size:=aa.size
 have bR:=C6 aH ac.lt
 have eg:=C6 aH af.lt
 have bS:=KS aH aa.size
 have eh:Cov nil w ao:=P2 aH aa.size
 have bT:=C6 aN ac.lt
 have ej:=C6 aN af.lt
 have bU:=KS aN aa.size
 have bV:Mv [am,aj] [ao,ak,am,aj] b9 bi:=Mv.cons (Mv.cons (Mv.ext bj) aN) aH
 replace ⟨h3,ac,af,aa⟩:=(sp bV bj).g4 h3 ac af aa
 replace ag:RepS bi (nin (ge w.heap.size) [ao,ak,am,aj]) _ _ _ _:=RepS.Fk (s0:=w.heap.size) (M:=[am,aj]) ag aO aY
 replace ag:=ag.base (G':=fo F w.heap.size) (fun _ _ h=>.inr h)
 have ek:=ag.max
 replace ah:RepS bi (nin (ge w.heap.size) [ao,ak,am,aj]) _ _ _ _:=RepS.Fk (s0:=w.heap.size) (M:=[am,aj]) ah aO aY
 replace ah:=ah.base (G':=fo F w.heap.size) (fun _ _ h=>.inr h)
 have en:=ah.max
 replace ai:Own bi ao 104 (nin (ge w.heap.size) [ao,ak,am,aj]) _ _ _:=Own.Fk (s0:=w.heap.size) (M:=[am,aj]) ai aO aY
 replace ai:=ai.base (G':=fo F w.heap.size) (fun _ _ h=>.inr h)
 have eB:=ai.max
 have eC:=ai.len
 replace ab:Own bi ak 106 (nin (ge w.heap.size) [ao,ak,am,aj]) _ _ _:=Own.Fk (s0:=w.heap.size) (M:=[am,aj]) ab aO aY
 replace ab:=ab.base (G':=fo F w.heap.size) (fun _ _ h=>.inr h)
 have c7:=ag.len
 subst c7
 have c8:=ah.len
 subst c8
 refine .np 31 [AH,AH,AH,AH] fun aq fA aB bW da db=>?_
 have eF:=Ab aB ac.lt
 have eG:=Ab aB af.lt
 have de:=Ab aB ai.lt
 have cm:=Ab aB ab.lt
 have dD:=aa.cn aB
 replace ⟨h3,ac,af,ag,ah,ai,ab,aa⟩:=(sn [ao,ak,am,aj] bW aB).g8 h3 ac af ag ah ai ab aa
 refine .sc [.slice cd (((((Ah s)).idx).names).length) ce,.slice cg (((((Ah s)).idx).AY).length) ci,vS ao bd cZ,vS ak cj ck] da fun df bk ae co=>?_
 replace ⟨h3,ac,af,ag,ah,ai,ab,aa⟩:=(so [aq,ao,ak,am,aj] bk).g8 h3 ac af ag ah ai ab aa
 refine .d<|.s<|.s<|.g<|.r 2<|.lb ac<|.r 1<|RG.int ((s.parts.length:Int) - 2) AA (by have:=p0.np; omega)<|.cl (Bk at_ 0 ((s.parts.length:Int) - 2) (w:=df) (F:=all)) ?_
 rintro eH aQ ⟨rfl,bm⟩
 replace ⟨h3,ac,af,ag,ah,ai,ab,ae,aa⟩:=(se [aq,ao,ak,am,aj] bm).g9 h3 ac af ag ah ai ab ae aa
 cases bn:(inR at_ 0 ((s.parts.length:Int) - 2))
 ·refine .r 1<|.d<|.ct<|.s<|.g<|.ln ae<|.sc [.slice cd (((((Ah s)).idx).names).length) ce,.slice cg (((((Ah s)).idx).AY).length) ci,vS ao bd cZ,vS ak cj ck] af fun bX bo cp cq=>?_
  replace ⟨h3,ac,ag,ah,ai,ab,ae,aa⟩:=(so [aq,ao,ak,am,aj] bo).g8 h3 ac ag ah ai ab ae aa
  refine .r 1<|.d ?_
  have bq:=ai.sl (.inr bS)
  replace ⟨h3,ag,ah,ab⟩:=(sd bX [aq,ao,ak,am,aj] ao).g4 h3 ag ah ab
  have dh:=ab.sl (.inr bU)
  replace ⟨h3,ag,ah,bq⟩:=(sd bX [aq,ak,am,aj] ak).g4 h3 ag ah bq
  exact .r2 func72 results72 (.bx cp) (.t (.bool false)) ⟨⟨_,(Be rfl (AG (by rw [L9 p0 ‹_› ‹_›]))),(VS.of (y:=(⟨(⟨(((Ah s)).idx).names,(((Ah s)).idx).AY⟩:Idx),((Ah s)).parts,((Ah s)).mem⟩:Sto)) ⟨_,rfl,⟨_,_,_,_,_,_,_,_,_,_,_,_,rfl,ag.w1,ah.w1,bq.w1,dh.w1⟩⟩ (by rw [L9 p0 ‹_› ‹_›]))⟩,aa⟩
 have dF:=BW bn
 refine .r 1<|.d<|.cf<|.sk<|.s ?_
 replace h3:=h3.Cn
 replace ag:=ag.Cn
 replace ah:=ah.Cn
 have br:Gb (aj+1) aQ.heap.size:=ac.lt
 have cr:Cov (mtb [ao,ak] aQ.heap.size) aQ ao:=⟨.inl (.inl AI)⟩
 have cu:Gb (aq+1) aQ.heap.size:=ae.lt
 refine .gd (mtb [ao,ak] aQ.heap.size) 20 fun eI bu=>?_
 replace ⟨h3,ac,af,ag,ah,ai,ab,ae,aa⟩:=(se [aq,ao,ak,am,aj] bu).g9 h3 ac af ag ah ai ab ae aa
 refine .r [0]<|.lb 1 ae (C7 (all_cons de (all_cons cm all_nil)) cu)<|.r [2,3]<|.lb 4 ac (C7 (all_cons (Nb.symm bR) (all_cons (Nb.symm bT) all_nil)) br)<|.r [5] ?_
 have bv:at_.toNat< s.parts.length:=(by have q2:=BW ‹_›; have q3:(Ah s).parts.length=s.parts.length:=rfl; omega)
 refine GA.idx (i:=6) (at_.toNat) (len:=s.parts.length) (z:=at_) (sz:=2) AA (by have q2:=BW ‹_›; omega) bv (h3.addr (Nat.zero_lt_of_lt bv)) ?_
 obtain ⟨aC,aK⟩:∃ y,s.parts[at_.toNat]? = some y:=⟨_,AU (by have q2:=BW ‹_›; omega)⟩
 have dj:=AV aK
 obtain ⟨_,⟨eJ,eK,eM,eO,eP,eQ,rfl,bw,bz⟩,cw⟩:=h3.elem (at_.toNat) aC aK
 have cx:=bw.len
 subst cx
 have cy:=bz.len
 subst cy
 refine .lg 7 0 cw (h3.nS (LQ aK) (all_cons AJ (all_cons AK all_nil)))<|.r [8]<|.lb 9 ac (C7 (all_cons (Nb.symm bR) (all_cons (Nb.symm bT) all_nil)) br)<|.r [10]<|GA.int (i:=11) (at_+1) AA (by have:=p0.np; omega) ?_
 have bA:(at_+1).toNat< s.parts.length:=(by have q2:=BW ‹_›; have q3:(Ah s).parts.length=s.parts.length:=rfl; omega)
 refine GA.idx (i:=12) ((at_+1).toNat) (len:=s.parts.length) (z:=at_+1) (sz:=2) AA (by have q2:=BW ‹_›; omega) bA (h3.addr (Nat.zero_lt_of_lt bA)) ?_
 obtain ⟨aD,aL⟩:∃ y,s.parts[(at_+1).toNat]? = some y:=⟨_,AU (by have q2:=BW ‹_›; omega)⟩
 have dm:=AV aL
 obtain ⟨_,⟨eR,eT,eU,eV,eW,eX,rfl,bB,bC⟩,cz⟩:=h3.elem ((at_+1).toNat) aD aL
 have cA:=bB.len
 subst cA
 have cB:=bC.len
 subst cB
 refine .lg 13 0 cz (h3.nS (LQ aL) (all_cons AJ (all_cons AK all_nil)))<|.go 14<|.cl (fun bD aA=>Ek aC aD (bw.ta.ext aA) (bz.ta.ext aA) (bB.ta.ext aA) (bC.ta.ext aA) (by exact (p0.part _ ‹_›).sz) (by exact (p0.part _ ‹_›).sz) (w:=bD) (F:=all)) ?_
 intro bD aA
 replace ⟨ac,af,ag,ah,ai,ab,ae,aa⟩:=(se [aq,ao,ak,am,aj] aA).g8 ac af ag ah ai ab ae aa
 rintro eY dq ⟨⟨eZ,rfl,⟨_,rfl,⟨dt,e7,du,dv,e8,dw,rfl,aE,aF⟩⟩⟩,aS⟩
 have aT:=al5 ae.lt ai.lt ab.lt af.lt ac.lt
 have bE:Gb w.heap.size bD.heap.size:=aa.size
 have hkeep_:=aS
 replace ⟨ac,af,ag,ah,ai,ab,ae,aa⟩:=(se [aq,ao,ak,am,aj] aS).g8 ac af ag ah ai ab ae aa
 refine ⟨Ext.chg hkeep_,?_⟩
 have aE:=aE.fr aT bE
 replace aE:=aE.base (G':=fo F w.heap.size) (fun _ _ h=>.inr h)
 have dM:=aE.max
 have aF:=aF.fr aT bE
 replace aF:=aF.base (G':=fo F w.heap.size) (fun _ _ h=>.inr h)
 have dN:=aF.max
 have cC:=aE.len
 subst cC
 have cD:=aF.len
 subst cD
 refine .r [15,16,17] ?_
 have cE:at_.toNat< bd:=(by have q2:=BW ‹_›; have q3:(Ah s).parts.length=s.parts.length:=rfl; omega)
 refine GA.idx (i:=18) (b:=ao) (o:=0) (at_.toNat) (len:=bd) (z:=at_) (sz:=2) AA (by have q2:=BW ‹_›; omega) cE rfl<|.go 19 ?_
 obtain ⟨aR,aM⟩:∃ y,(((Ah s)).parts)[at_.toNat]? = some y:=⟨_,AU (by have q2:=BW ‹_›; omega)⟩
 obtain ⟨_,⟨bY,fa,bZ,b0,fb,b6,rfl,aZ,ba⟩,aU⟩:=ai.elem (at_.toNat) aR aM
 replace aZ:=aZ.CQ (fun _ _ h=>h.1)
 replace ba:=ba.CQ (fun _ _ h=>h.1)
 have cF:=aZ.len
 subst cF
 have cG:=ba.len
 subst cG
 replace aU:Has dq ⟨ao,0+(at_.toNat) * Rep.sz Prt,none⟩ [.slice bY aR.ids.length bZ,.slice b0 aR.blocks.length b6]:=by rw [Nat.zero_add]; exact aU
 refine GE.IS (t':=104) (q:=(at_.toNat)) (k:=0) (v:=.agg #[.slice dt ((CE aC aD).1.ids.length) du,.slice dv ((CE aC aD).1.blocks.length) dw]) (cs:=[.slice bY aR.ids.length bZ,.slice b0 aR.blocks.length b6]) ((CE aC aD).1) ai aM aU ⟨_,_,_,_,_,_,rfl,aE.oi,aF.oi⟩ AA AA AA fun fd bF=>?_
 replace ⟨ac,af,ag,ah,ab,ae,aa⟩:=(se [aq,ao,ak,am,aj] bF).g7 ac af ag ah ab ae aa
 intro fe az aV cH
 have hkeep_:=Chg.toS aV (Cov.toS cr)
 replace ⟨ac,af,ag,ah,ab,ae,aa⟩:=(so [aq,ao,ak,am,aj] aV).g7 ac af ag ah ab ae aa
 refine ⟨hkeep_,?_⟩
 refine .d fun ff bG=>?_
 replace ⟨ac,af,ag,ah,az,ab,ae,aa⟩:=(se [aq,ao,ak,am,aj] bG).g8 ac af ag ah az ab ae aa
 replace ag:=ag.BO
 replace ah:=ah.BO
 refine .d<|.s<|.g<|.ns 0 104 [] fun aI dy ar bH cI cJ=>?_
 have cK:=Ab ar ac.lt
 have cL:=Ab ar af.lt
 have dR:=Ab ar az.lt
 have cM:=Ab ar ab.lt
 have cN:=Ab ar ae.lt
 have cO:=Bq ar aa.size
 have dS:=aa.cn ar
 replace ⟨ac,af,ag,ah,az,ab,ae,aa⟩:=(sn [aq,ao,ak,am,aj] bH ar).g8 ac af ag ah az ab ae aa
 have aG:Own (α:=Prt) dy aI 104 (nin (fo F w.heap.size) [aI,aq,ao,ak,am,aj]) 0 0 []:=Own.Ba cI
 refine .r 1<|.lb ae<|.r 1<|RG.int (at_+1) AA (by have:=p0.np; omega)<|.r 1<|RG.int (at_+2) AA (by have:=p0.np; omega) ?_
 have cP:=az.len; rw [List.length_set] at cP
 refine .cl (Kw (i:=(at_.toNat+1)) (a:=at_+1) (b:=at_+2) az (by have q2:=BW ‹_›; omega) (by have q2:=BW ‹_›; omega) (by have q2:=BW ‹_›; have q3:(Ah s).parts.length=s.parts.length:=rfl; omega) (by have q2:=BW ‹_›; have q3:(Ah s).parts.length=s.parts.length:=rfl; have q4:=p0.np; omega)) ?_
 rintro fg dz ⟨⟨rfl,aW⟩,bI⟩
 replace ⟨ac,af,ag,ah,ab,ae,aG,aa⟩:=(so [aI,aq,ao,ak,am,aj] bI).g8 ac af ag ah ab ae aG aa
 have dU:=aW.len; have dV:=aW.max
 have dA:=aW.sl (.inr bS)
 replace ⟨ag,ah,ab,aG⟩:=(sd dz [aI,aq,ao,ak,am,aj] ao).g4 ag ah ab aG
 refine RG.Qw (T:=28) (ty:=28) aG dA AA AA (fun b _ h=>P3 AI h) (by have q1:=p0.np; have q2:(Ah s).parts.length=s.parts.length:=rfl; omega) fun aJ b7 fi ax ay bJ=>?_
 have dW:=Bz ay cK ac.lt
 have dX:=Bz ay cL af.lt
 have dY:=Bz ay cM ab.lt
 have dZ:=Bz ay cN ae.lt
 have cQ:=Fj ay cO aa.size
 replace ⟨af,ag,ah,ab,ae,aa⟩:=(sa [aI,aq,ak,am,aj] bJ ay).g6 af ag ah ab ae aa
 replace ax:=ax.rn aI
 refine .r 1<|.ss 2 (vS aJ (0+(bd - 1)) b7) ae fun fj bK cR cS=>?_
 replace ⟨af,ag,ah,ab,ax,aa⟩:=(so [aJ,aq,ak,am,aj] bK).g6 af ag ah ab ax aa
 refine .d<|.s<|.g<|.ln cR<|.sc [.slice cd (((((Ah s)).idx).names).length) ce,.slice cg (((((Ah s)).idx).AY).length) ci,vS aJ (0+(bd - 1)) b7,vS ak cj ck] af fun b8 bL cT cU=>?_
 replace ⟨ag,ah,ab,ax,aa⟩:=(so [aJ,aq,ak,am,aj] bL).g5 ag ah ab ax aa
 refine .r 1<|.d ?_
 have bM:=ax.sl (.inr cQ)
 replace ⟨ag,ah,ab⟩:=(sd b8 [aJ,aq,ak,am,aj] aJ).g3 ag ah ab
 have dB:=ab.sl (.inr bU)
 replace ⟨ag,ah,bM⟩:=(sd b8 [aq,ak,am,aj] ak).g3 ag ah bM
 exact .r2 func72 results72 (.bx cT) (.t (.bool true)) ⟨⟨_,(Be rfl (AG (by exact (congrArg Prod.snd (PL p0 ‹_› ‹_› ‹_› ‹_›)).symm))),(VS.of (y:=(⟨(⟨(((Ah s)).idx).names,(((Ah s)).idx).AY⟩:Idx),([]++(((((Ah s)).parts).set (at_.toNat) ((CE aC aD).1)).take (at_.toNat+1)++((((Ah s)).parts).set (at_.toNat) ((CE aC aD).1)).drop ((at_.toNat+1)+1))),((Ah s)).mem⟩:Sto)) ⟨_,rfl,⟨_,_,_,_,_,_,_,_,_,_,_,_,rfl,ag.w1,ah.w1,bM.w1,dB.w1⟩⟩ (by exact (congrArg Prod.fst (PL p0 ‹_› ‹_› ‹_› ‹_›)).symm))⟩,aa⟩
end Go.Proofs.YtfninflnngpchaaGreatDoor
namespace Go.Proofs.YtfninflnngpchaaGreatDoor
theorem MA:Bt []=true:=by decide
theorem NK {s:Sto}(h:SD s) (hk:Aa s=true){id:Int}{p:List Tag→Bool}(hid:id∈BD p 0 s.idx.names) (lo hi:Int):G8 (IH s id) lo hi=HW (rowsOf s id) lo hi:=by
 have:=Cp hid
 rw [UB hk this.1 this.2,J9 h hk this.1 this.2]
def Dz (s:Sto) (f:List Cnd) (lo hi:Int) (i k:Nat):Prop:=((BD (CA f) 0 s.idx.names).drop i).flatMap (DH s lo hi)=(By s f lo hi).drop k
theorem Dz.skip {s:Sto}{f:List Cnd}{lo hi:Int}{i k:Nat}{id:Int}(h:Dz s f lo hi i k) (hs:SD s) (hk:Aa s=true) (hd:(BD (CA f) 0 s.idx.names).drop i=id::(BD (CA f) 0 s.idx.names).drop (i+1)) (hl:((G8 (IH s id) lo hi).length:Int)=0):Dz s f lo hi (i+1) k:=by
 have hm:id∈BD (CA f) 0 s.idx.names:=List.mem_of_mem_drop (by rw [hd]; simp)
 rw [NK hs hk hm] at hl
 unfold Dz at h ⊢
 rw [hd,List.flatMap_cons] at h
 have e:DH s lo hi id=[]:=by unfold DH; rw [if_neg AB]
 rw [e,List.nil_append] at h
 exact h
theorem Dz.hit {s:Sto}{f:List Cnd}{lo hi:Int}{i k:Nat}{id:Int}(h:Dz s f lo hi i k) (hs:SD s) (hk:Aa s=true) (hd:(BD (CA f) 0 s.idx.names).drop i=id::(BD (CA f) 0 s.idx.names).drop (i+1)) (hl:((G8 (IH s id) lo hi).length:Int)≠0){n:List Tag}(hn:s.idx.names[(id - 1).toNat]? = some n) :
 (By s f lo hi)[k]? = some ⟨D9 n,G8 (IH s id) lo hi⟩∧Dz s f lo hi (i+1) (k+1):=by
 have hm:id∈BD (CA f) 0 s.idx.names:=List.mem_of_mem_drop (by rw [hd]; simp)
 rw [NK hs hk hm] at hl ⊢
 unfold Dz at h ⊢
 rw [hd,List.flatMap_cons] at h
 have e:DH s lo hi id=[⟨D9 n,HW (rowsOf s id) lo hi⟩]:=by
  unfold DH
  rw [if_pos AB,List.getD_eq_getElem?_getD,hn,L5 (hs.nm.ok n (AV hn))]
  rfl
 rw [e,List.cons_append,List.nil_append] at h
 constructor
 ·have:=congrArg (fun l=>l[0]?) h
  simp only [List.getElem?_cons_zero,List.getElem?_drop,Nat.add_zero] at this
  exact this.symm
 ·have:=congrArg List.tail h
  rw [List.tail_cons,List.tail_drop] at this
  exact this
theorem Dz.fin {s:Sto}{f:List Cnd}{lo hi:Int}{i k:Nat}(h:Dz s f lo hi i k) (hi2:(BD (CA f) 0 s.idx.names).length≤i):(By s f lo hi).length≤k:=by
 unfold Dz at h
 rw [Ac hi2] at h
 have:=congrArg List.length h
 simp only [List.flatMap_nil,List.length_nil,List.length_drop] at this
 omega
theorem Dz.no1 {s:Sto}{f:List Cnd}{lo hi:Int}{i k:Nat}{id:Int}(h:Dz s f lo hi i k) (hs:SD s) (hk:Aa s=true) (hd:(BD (CA f) 0 s.idx.names).drop i=id::(BD (CA f) 0 s.idx.names).drop (i+1)) (hl:((G8 (IH s id) lo hi).length:Int)≠0) (hb:(k:Int)≥((By s f lo hi).length:Int)):False:=by
 have hm:id∈BD (CA f) 0 s.idx.names:=List.mem_of_mem_drop (by rw [hd]; simp)
 have h2:=Cp hm
 obtain ⟨n,hn⟩:∃ n,s.idx.names[(id - 1).toNat]? = some n:=⟨_,AU AB⟩
 have h3:=(List.getElem?_eq_some_iff.1 (h.hit hs hk hd hl hn).1).1
 omega
theorem Dz.no2 {s:Sto}{f:List Cnd}{lo hi:Int}{i k:Nat}{id:Int}(h:Dz s f lo hi i k) (hs:SD s) (hk:Aa s=true) (hd:(BD (CA f) 0 s.idx.names).drop i=id::(BD (CA f) 0 s.idx.names).drop (i+1)) (hl:((G8 (IH s id) lo hi).length:Int)≠0){n:List Tag}(hn:s.idx.names[(id - 1).toNat]? = some n){b:Hit}(hb:(By s f lo hi)[k]? = some b)
 (hf:(b.name==D9 n)=false∨(b.name != D9 n)=true∨(b.rows==G8 (IH s id) lo hi)=false):False:=by
 have h3:=(h.hit hs hk hd hl hn).1
 rw [hb] at h3
 simp only [Option.some.injEq] at h3
 subst h3
 rcases hf with hf | hf | hf <;> simp at hf
end Go.Proofs.YtfninflnngpchaaGreatDoor
namespace Go.Proofs.YtfninflnngpchaaGreatDoor
theorem Sd {s:Sto}(h:SD s) (h1:(Bm s).2=true):(Bm s).1=Cz s∧Aa s=true∧s.mem≠[]∧s.parts.length< 6:=by
 cases hk:Aa s with
 | false=>rw [J7 hk] at h1; cases h1
 | true =>
   by_cases hc:(s.mem.length:Int)=0∨(s.parts.length:Int)=6
   ·rw [HV h hk hc] at h1; cases h1
   ·have h6:=OE hk
    rw [JF h hk AB AB]
    refine ⟨?_,rfl,fun e=>?_,by omega⟩
    ·show (⟨(Ah s).idx,(Ah s).parts++[Ai s.mem],[]⟩:Sto)=Cz s
     rw [h.copy]
     rfl
    ·rw [e] at hc; simp at hc
theorem MB {s x:Sto}{f:List Cnd}(hi:x.idx=s.idx) (hk:Aa s=Aa x) (hr:Aa s=true→∀ id:Int,1≤id→id≤s.idx.names.length→rowsOf x id=rowsOf s id) (lo hi2:Int):By x f lo hi2=By s f lo hi2:=by
 unfold By
 rw [← hk]
 cases hs:Aa s&&Bt f with
 | false=>rfl
 | true =>
   simp only [AW] at hs
   rw [if_pos rfl,if_pos rfl]
   unfold FW
   rw [hi]
   have key:∀ (l:List Int),(∀ i∈l,1≤i∧i≤s.idx.names.length)→l.flatMap (DH x lo hi2)=l.flatMap (DH s lo hi2):=by
    intro l
    induction l with
    | nil=>intro _; rfl
    | cons i is ih =>
      intro h
      rw [List.flatMap_cons,List.flatMap_cons,ih (fun j hj=>h j (by simp [hj]))]
      have h1:=h i AD
      unfold DH
      rw [hr hs.1 i h1.1 h1.2,hi]
   exact key _ (fun i hi=>Cp hi)
end Go.Proofs.YtfninflnngpchaaGreatDoor
namespace Go.Proofs.YtfninflnngpchaaGreatDoor
theorem NL (a b:Prt){id:Int}(h1:1≤id) (h2:id≤6):partOf (BF a b) id=Bf (partOf a id) (partOf b id):=by
 unfold BF
 rw [O9 _ h1,List.getD_eq_getElem?_getD]
 unfold BY
 rw [List.getElem?_map,List.getElem?_range AB]
 simp only [Option.map_some,Option.getD_some]
 rw [show (((id - 1).toNat:Nat):Int)+1=id by omega]
def CV (s:Sto) (k:Nat):Sto:=⟨s.idx,Gi s.parts k,s.mem⟩
theorem LH {s:Sto}{i:Int}(h:SD s) (h1:(BR s i).2=true):Aa s=true∧0≤i∧i+2≤s.parts.length∧(BR s i).1=CV s i.toNat:=by
 cases hk:Aa s with
 | false=>rw [KB hk] at h1; cases h1
 | true =>
   cases hr:inR i 0 ((s.parts.length:Int) - 2) with
   | false=>rw [L9 h hk hr] at h1; cases h1
   | true =>
     have h2:=BW hr
     refine ⟨rfl,h2.1,by omega,?_⟩
     rw [Gq hk,h.copy]
     unfold BH
     rw [if_pos hr]
     rfl
theorem FL {s:Sto}{k:Nat}(hk:k+2≤s.parts.length):∃ x y,s.parts[k]? = some x∧s.parts[k+1]? = some y∧(CV s k).parts=s.parts.take k++[BF x y]++s.parts.drop (k+2):=by
 refine ⟨_,_,AU AB,AU AB,?_⟩
 exact Hs (AU AB) (AU AB)
theorem Ez {s:Sto}(h:StoK s){k:Nat}(hk:k+2≤s.parts.length){id:Int}(h1:1≤id) (h2:id≤6):(CV s k).parts.foldl (Bv id) []=s.parts.foldl (Bv id) []∧rowsOf (CV s k) id=rowsOf s id:=by
 obtain ⟨x,y,hx,hy,e⟩:=FL hk
 have key:(CV s k).parts.foldl (Bv id) []=s.parts.foldl (Bv id) []:=by
  have hs:s.parts=s.parts.take k++[x,y]++s.parts.drop (k+2):=by
   have e1:=List.take_append_drop k s.parts
   rw [drop_at hx,drop_at hy] at e1
   rw [List.append_assoc]
   exact e1.symm
  rw [e]
  conv=>rhs; rw [hs]
  simp only [List.foldl_append,List.foldl_cons,List.foldl_nil]
  congr 1
  have px:=h.sd.part x (AV hx)
  have py:=h.sd.part y (AV hy)
  have ho:Blk ((s.parts.take k).foldl (Bv id) []):=GM (fun p hp=>h.sd.part p (List.mem_of_mem_take hp)) Blk.nil
  unfold Bv
  rw [NL x y h1 h2]
  exact (OD ho (px.of id) (py.of id)).symm
 refine ⟨key,?_⟩
 unfold rowsOf
 rw [key]
 rfl
theorem QW {p:Prt}{n:Int}(h:Bn p n=true):∃ id:Int,1≤id∧id≤6∧id≤n∧0< (partOf p id).length:=by
 have hle:=JJ h
 unfold Bn at h
 simp only [AW] at h
 obtain ⟨h1,h2⟩:=h
 unfold Av at h1
 simp only [AW,decide_eq_true_eq] at h1
 obtain ⟨h3,h4⟩:=h1
 unfold partOf
 cases hi:p.ids with
 | nil=>rw [hi] at h2; simp at h2
 | cons i is =>
   cases hb:p.blocks with
   | nil=>rw [hi,hb] at h3; simp at h3
   | cons b bs =>
     rw [hi,hb] at h4
     unfold Br at h4
     simp only [AW,decide_eq_true_eq] at h4
     have h5:=BW h4.1.1.1.1
     refine ⟨i,h5.1,h5.2,hle i (by rw [hi]; simp),?_⟩
     unfold Bd
     rw [if_pos AD]
     exact h4.1.1.2
theorem PM {s:Sto}(h:SD s) (hk:Aa s=true){x y:Prt}(hx:x∈s.parts) (hy:y∈s.parts){id:Int}(h1:1≤id) (h2:id≤6):Blk (Bf (partOf x id) (partOf y id))∧(Bf (partOf x id) (partOf y id)).length≤24:=by
 have e:=L8 h hk hx hy
 unfold CE at e
 split at e
 ·rename_i hc
  obtain ⟨ox,oy,hm⟩:=hc
  unfold okM at hm
  rw [List.all_eq_true] at hm
  have:=hm (id - 1).toNat (by rw [List.mem_range]; omega)
  rw [show (((id - 1).toNat:Nat):Int)+1=id by omega] at this
  have e1:BJ x id=partOf x id:=by unfold BJ; rw [if_pos ox]
  have e2:BJ y id=partOf y id:=by unfold BJ; rw [if_pos oy]
  rw [e1,e2] at this
  refine ⟨(Kc (GO ox id)).merge (Kc (GO oy id)),?_⟩
  unfold CG at this
  split at this
  ·rename_i hc; have:=hc.2.2; omega
  ·cases this
 ·exact absurd (congrArg Prod.snd e) AD
theorem GP {s:Sto}(h:SD s) (hk:Aa s=true){k:Nat}(hl:k+2≤s.parts.length):Aa (CV s k)=true:=by
 have hK:=StoK.of h hk
 obtain ⟨x,y,hx,hy,e⟩:=FL hl
 have mx:=AV hx
 have my:=AV hy
 have hn:=h.nm.len
 have hk2:=hk
 unfold Aa at hk2 ⊢
 simp only [AW,decide_eq_true_eq,List.all_eq_true,List.mem_range,E9] at hk2 ⊢
 obtain ⟨⟨⟨⟨a1,a2⟩,a3⟩,a4⟩,a5⟩:=hk2
 refine ⟨⟨⟨⟨?_,a2⟩,fun p hp=>?_⟩,a4⟩,fun i hi=>?_⟩
 ·rw [e]
  simp only [List.length_append,List.length_take,List.length_drop,List.length_cons,List.length_nil]
  omega
 ·rw [e] at hp
  simp only [List.mem_append,List.mem_cons,List.not_mem_nil,or_false] at hp
  rcases hp with (hp | rfl) | hp
  ·exact a3 p (List.mem_of_mem_take hp)
  ·show Bn (EF (BY x y 6)) s.idx.names.length=true
   have hblk:∀ (i:Nat) b,(BY x y 6)[i]? = some b→i< 6∧b=Bf (partOf x ((i:Int)+1)) (partOf y ((i:Int)+1)):=fun i b hb=>by
    unfold BY at hb
    rw [List.getElem?_map] at hb
    by_cases hi:i< 6
    ·rw [List.getElem?_range hi] at hb
     simp only [Option.map_some,Option.some.injEq] at hb
     exact ⟨hi,hb.symm⟩
    ·rw [List.getElem?_eq_none (by simp; omega)] at hb
     cases hb
   refine PB (fun b hb=>?_) (by rw [D7]; omega) ?_ (fun i b hb hp=>?_)
   ·obtain ⟨i,hi⟩:=List.mem_iff_getElem?.1 hb
    obtain ⟨h6,rfl⟩:=hblk i b hi
    exact PM h hk mx my AB AB
   ·obtain ⟨id,g1,g2,_,g4⟩:=QW (a3 x mx)
    refine ⟨Bf (partOf x id) (partOf y id),?_,?_⟩
    ·unfold BY
     refine List.mem_map.2 ⟨(id - 1).toNat,by simp; omega,?_⟩
     rw [show (((id - 1).toNat:Nat):Int)+1=id by omega]
    ·have bx:=(h.part x mx).of id
     have by':=(h.part y my).of id
     have:=OC bx (bx.merge by') (fun t ht=>by
      rw [Cj t _ bx by']
      cases look t (partOf y id) with
      | none=>exact ht
      | some q=>rfl)
     omega
   ·obtain ⟨h6,rfl⟩:=hblk i b hb
    by_cases hin:i< s.idx.names.length
    ·exact hin
    ·rw [KC (p:=x) (fun j hj=>by have:=JJ (a3 x mx) j hj; omega),KC (p:=y) (fun j hj=>by have:=JJ (a3 y my) j hj; omega)] at hp
     exact absurd hp AE
  ·exact a3 p (List.mem_of_mem_drop hp)
 ·rw [(Ez hK hl AB (by have:i< s.idx.names.length:=hi; omega)).2]
  exact a5 i hi
theorem Sf {s:Sto}(h:SD s){k:Nat}(hl:k+2≤s.parts.length):SD (CV s k):=by
 obtain ⟨x,y,hx,hy,e⟩:=FL hl
 refine ⟨h.idx,h.nm,h.nd,?_,fun p hp=>?_,h.nm2,h.mem⟩
 ·have:=h.np
  rw [e]
  simp only [List.length_append,List.length_take,List.length_drop,List.length_cons,List.length_nil]
  omega
 ·rw [e] at hp
  simp only [List.mem_append,List.mem_cons,List.not_mem_nil,or_false] at hp
  rcases hp with (hp | rfl) | hp
  ·exact h.part p (List.mem_of_mem_take hp)
  ·exact (h.part x (AV hx)).merge (h.part y (AV hy))
  ·exact h.part p (List.mem_of_mem_drop hp)
section
variable {s:Sto} {i:Int}
theorem UL (h:SD s) (h1:(BR s i).2=true):SD (BR s i).1:=by
 obtain ⟨_,h2,h3,e⟩:=LH h h1
 rw [e]
 exact Sf h AB
theorem QX (h:SD s) (h1:(BR s i).2=true):By (BR s i).1 [] 0 99=By s [] 0 99∧Aa (BR s i).1=true:=by
 obtain ⟨hk,h2,h3,e⟩:=LH h h1
 have h5:=GP h hk (k:=i.toNat) AB
 rw [e]
 exact ⟨MB (x:=CV s i.toNat) (s:=s) rfl (hk.trans h5.symm) (fun _ id a b=>(Ez (StoK.of h hk) AB a (by have:=h.nm.len; omega)).2) _ _,h5⟩
theorem Sh (h:SD s) (h1:(BR s i).2=true):(BR s i).1.parts.length+1=s.parts.length∧0≤i∧i+2≤s.parts.length∧i+1≤(BR s i).1.parts.length:=by
 obtain ⟨hk,h2,h3,e⟩:=LH h h1
 obtain ⟨x,y,hx,hy,e2⟩:=FL (s:=s) (k:=i.toNat) AB
 rw [e,e2]
 simp only [List.length_append,List.length_take,List.length_drop,List.length_cons,List.length_nil]
 omega
end
end Go.Proofs.YtfninflnngpchaaGreatDoor
namespace Go.Proofs.YtfninflnngpchaaGreatDoor
theorem UM (v:Int):∀ (l:List Int) (i:Nat),l.contains v=decide (Eh v i l≥0):=by
 intro l
 induction l with
 | nil=>intro i; simp [Eh]
 | cons x xs ih =>
   intro i
   have:=ih (i+1)
   have e:Eh v i (x::xs)=if x==v then (i:Int) else Eh v (i+1) xs:=rfl
   rw [e,List.contains_cons,this]
   by_cases h:x=v
   ·subst h; simp
   ·have h1:(x==v)=false:=beq_eq_false_iff_ne.2 h
    have h2:(v==x)=false:=beq_eq_false_iff_ne.2 (fun e=>h e.symm)
    rw [h1,h2]
    simp
def Dh (nx:Int):Option Int→List Fil→Bool
 | _,[]=>true
 | o,f::fs=>inR f.num 1 (nx - 1)&&(match o with | some q=>decide (q< f.num) | none=>true)&&Av f.part&&Dh nx (some f.num) fs
def EA (d:Dsk):Bool:=d.list.all (fun n=>decide (0≤At d n))&&decide d.list.Nodup
def BC (d:Dsk):Bool:=inR d.next 1 999&&decide (d.files.length≤20)&&decide (d.list.length≤6)&&Dh d.next none d.files&&EA d&&(nmB d.names&&Aa (Ar d))
structure DD (d:Dsk):Prop where
 g:NmG d.names
 nl:d.list.length≤7
 nf:d.files.length≤20
 file:∀ f∈d.files,PrtI f.part
 next:0≤d.next∧d.next≤999
theorem DD.part {d:Dsk}(h:DD d) (n:Int):PrtI (Ay d n):=by
 unfold Ay
 rw [List.getD_eq_getElem?_getD]
 cases hx:d.files[(At d n).toNat]? with
 | none=>exact PrtI.nil
 | some f=>exact h.file f (AV hx)
theorem DD.sg {d:Dsk}(h:DD d):SG (Ar d):=by
 refine ⟨⟨h.g,fun _=>rfl⟩,by simp [Ar]; exact h.nl,fun p hp=>?_,by simp [Ar],by simp [Ar]⟩
 simp only [Ar,List.mem_map] at hp
 obtain ⟨n,_,rfl⟩:=hp
 exact h.part n
def Kx (fs:List Fil) (k:Nat):Option Int:=prev (fs.map Fil.num) k
theorem PN {nx:Int}{fs:List Fil}{k:Nat}{f:Fil}{b:Bool}(h:Dh nx (Kx fs k) (fs.drop k)=b) (hd:fs.drop k=f::fs.drop (k+1)) (hf:fs[k]? = some f) (h1:inR f.num 1 (nx - 1)=true) (h2:k=0∨∃ q,fs[k - 1]? = some q∧¬ q.num≥f.num) (h3:Av f.part=true):Dh nx (Kx fs (k+1)) (fs.drop (k+1))=b:=by
 rw [hd] at h
 unfold Dh at h
 have e:Kx fs (k+1)=some f.num:=by unfold Kx; rw [R3,List.getElem?_map,hf]; rfl
 have e2:(match Kx fs k with | some q=>decide (q< f.num) | none=>true)=true:=by
  rcases h2 with rfl | ⟨q,hq,hlt⟩
  ·rfl
  ·by_cases hk:k=0
   ·subst hk; rfl
   ·have:Kx fs k=some q.num:=by unfold Kx; rw [Oo _ _ AB,List.getElem?_map,hq]; rfl
    rw [this]
    simp
    omega
 rw [h1,h3,e2] at h
 rw [e]
 simpa using h
theorem OH {nx:Int}{fs:List Fil}{k:Nat}{f:Fil}{b:Bool}(h:Dh nx (Kx fs k) (fs.drop k)=b) (hd:fs.drop k=f::fs.drop (k+1)) (h1:inR f.num 1 (nx - 1)=false∨(0< k∧∃ q,fs[k - 1]? = some q∧q.num≥f.num)∨Av f.part=false):b=false:=by
 rw [hd] at h
 unfold Dh at h
 rw [← h]
 rcases h1 with h1 | ⟨hk,q,hq,hge⟩ | h1
 ·rw [h1]; simp
 ·have:Kx fs k=some q.num:=by unfold Kx; rw [Oo _ _ AB,List.getElem?_map,hq]; rfl
  have e2:decide (q.num< f.num)=false:=decide_eq_false AB
  rw [this]
  simp only [e2]
  simp
 ·rw [h1]; simp
theorem WT {nx:Int}{fs:List Fil}{k:Nat}{b:Bool}(h:Dh nx (Kx fs k) (fs.drop k)=b) (hk:fs.length≤k):b=true:=by
 rw [Ac hk] at h
 exact h.symm
def UN (d:Dsk) (k:Nat):Prop:=∀ j n,j< k→d.list[j]? = some n→0≤At d n∧n∉d.list.take j
theorem X6 (d:Dsk):UN d 0:=fun j _ h=>absurd h AB
def fresh (d:Dsk) (n:Int) (k:Nat):Prop:=n∉d.list.take k
theorem UO {d:Dsk}{n:Int}{k:Nat}(h:((d.list.take k).drop 0).contains n=false):fresh d n k:=by
 unfold fresh
 rw [List.drop_zero] at h
 intro hm
 rw [List.contains_iff_mem.2 hm] at h
 cases h
theorem Si {d:Dsk}{k j:Nat}{n:Int}(h:UN d k) (hn:d.list[k]? = some n) (h1:¬ At d n< 0) (h2:fresh d n j) (hj:k≤j):UN d (k+1):=fun i m hi hm=>by
 by_cases e:i=k
 ·subst e
  rw [hn] at hm
  cases hm
  refine ⟨by omega,fun hmem=>h2 ?_⟩
  obtain ⟨a,ha⟩:=List.mem_iff_getElem?.1 hmem
  rw [List.getElem?_take] at ha
  split at ha
  ·exact List.mem_iff_getElem?.2 ⟨a,by rw [List.getElem?_take,if_pos AB]; exact ha⟩
  ·cases ha
 ·exact h i m AB hm
theorem PO {d:Dsk}{k:Nat}(h:UN d k) (hk:d.list.length≤k):EA d=true:=by
 unfold EA
 rw [AW,List.all_eq_true,decide_eq_true_eq]
 refine ⟨fun n hn=>?_,?_⟩
 ·obtain ⟨j,hj⟩:=List.mem_iff_getElem?.1 hn
  have:=(h j n (by have:=(List.getElem?_eq_some_iff.1 hj).1; omega) hj).1
  simpa using this
 ·unfold List.Nodup
  rw [List.pairwise_iff_getElem]
  intro i j hi hj hij e
  refine (h j d.list[j] AB (AU hj)).2 ?_
  rw [← e]
  exact List.mem_iff_getElem?.2 ⟨i,by rw [List.getElem?_take,if_pos hij]; exact AU hi⟩
theorem X7 {d:Dsk}{k:Nat}{n:Int}(hn:d.list[k]? = some n) (h:At d n< 0):EA d=false:=by
 cases hb:EA d with
 | false=>rfl
 | true =>
   unfold EA at hb
   rw [AW,List.all_eq_true] at hb
   have:=hb.1 n (AV hn)
   simp at this
   omega
theorem X8 {d:Dsk}{k:Nat}{n:Int}(hn:d.list[k]? = some n) (h:n∈d.list.take k):EA d=false:=by
 cases hb:EA d with
 | false=>rfl
 | true =>
   unfold EA at hb
   rw [AW,decide_eq_true_eq] at hb
   obtain ⟨i,hi⟩:=List.mem_iff_getElem?.1 h
   rw [List.getElem?_take] at hi
   split at hi
   ·rename_i hik
    have hd:=hb.2
    unfold List.Nodup at hd
    rw [List.pairwise_iff_getElem] at hd
    obtain ⟨a1,a2⟩:=List.getElem?_eq_some_iff.1 hi
    obtain ⟨b1,b2⟩:=List.getElem?_eq_some_iff.1 hn
    exact absurd (a2.trans b2.symm) (hd i k a1 b1 hik)
   ·cases hi
theorem E0 {d:Dsk}(h:EA d=true):∀ n∈d.list,0≤At d n:=fun n hn=>by
 unfold EA at h
 rw [AW,List.all_eq_true] at h
 have:=h.1 n hn
 simpa using this
theorem X9 {d:Dsk}{k:Nat}{n:Int}(hn:d.list[k]? = some n) (h:((d.list.take k).drop 0).contains n=true):EA d=false:=by
 rw [List.drop_zero] at h
 exact X8 hn (List.contains_iff_mem.1 h)
section
variable {d:Dsk}
theorem YA (h:inR d.next 1 999=false∨(d.files.length:Int) > 20∨(d.list.length:Int) > 6∨(d.names.length:Int) > 6):BC d=false:=by
 unfold BC
 rcases h with h | h | h | h
 ·rw [h]; simp
 ·rw [decide_eq_false (p:=d.files.length≤20) AB]; simp
 ·rw [decide_eq_false (p:=d.list.length≤6) AB]; simp
 ·rw [← V9 h]; simp
theorem WU (h:Dh d.next none d.files=false):BC d=false:=by unfold BC; rw [h]; simp
theorem ZN (h:EA d=false):BC d=false:=by unfold BC; rw [h]; simp
theorem Zy (h1:inR d.next 1 999=true) (h2:¬ (d.files.length:Int) > 20) (h3:¬ (d.list.length:Int) > 6) (h5:Dh d.next none d.files=true) (h6:EA d=true):BC d=(nmB d.names&&Aa (Ar d)):=by
 unfold BC
 rw [h1,h5,h6,decide_eq_true AB,decide_eq_true AB]
 simp
theorem Zz {y:Sto}(h1:inR d.next 1 999=true) (h2:¬ (d.files.length:Int) > 20) (h3:¬ (d.list.length:Int) > 6) (h5:Dh d.next none d.files=true) (h6:EA d=true) (hd:NsD d.names) (hy:y.idx.names=d.names∧(NmI d.names→NsD d.names→y=Ar d)):(nmB y.idx.names&&Aa y)=BC d:=by
 rw [Zy h1 h2 h3 h5 h6,hy.1]
 cases hb:nmB d.names with
 | false=>rfl
 | true=>rw [hy.2 (EN.1 hb) hd]
theorem GQ (h:BC d=true):NmI d.names∧Aa (Ar d)=true∧EA d=true:=by
 unfold BC at h
 simp only [AW] at h
 exact ⟨EN.1 h.2.1,h.2.2,h.1.2⟩
theorem DD.sd (h:DD d) (hk:BC d=true):SD (Ar d):=by
 obtain ⟨h1,h2,_⟩:=GQ hk
 have h3:=OE h2
 exact h.sg.sd (EN.2 h1) h3
def Ck (d:Dsk):Sto:=if BC d then Ar d else ⟨⟨[],[]⟩,[],[]⟩
theorem WW (h:BC d=false):Ck d=⟨⟨[],[]⟩,[],[]⟩:=by unfold Ck; rw [if_neg (by simp [h])]
theorem LI (h:BC d=true):Ck d=Ar d:=by unfold Ck; rw [if_pos h]
end
theorem Sj {d:Dsk}{l:List Int}{i:Nat}{n:Int}{k Y:List Prt}{f:Fil}(h:k++(l.drop i).map (Ay d)=Y) (hd:l.drop i=n::l.drop (i+1)) (hf:d.files[(At d n).toNat]? = some f):(k++[f.part])++(l.drop (i+1)).map (Ay d)=Y:=by
 rw [hd,List.map_cons] at h
 rw [← h]
 have:Ay d n=f.part:=by unfold Ay; rw [List.getD_eq_getElem?_getD,hf]; rfl
 rw [this]
 simp
theorem UP {d:Dsk}{l:List Int}{i:Nat}{k Y:List Prt}(h:k++(l.drop i).map (Ay d)=Y) (hi:l.length≤i):k=Y:=by
 rw [Ac hi] at h
 simpa using h
theorem Hy {d:Dsk}{n:Int}(h:0≤At d n):(At d n).toNat< d.files.length∧At d n=((At d n).toNat:Int):=by
 have:=(K9 n d.files 0).1
 unfold At at h ⊢
 omega
def ER (d:Dsk) (y:Sto):Prop:=y.idx.names=d.names∧y.parts=(Ar d).parts∧y.mem=[]∧(NmI d.names→NsD d.names→y=Ar d)
theorem ER.mk {d:Dsk}{a:List (List Tag)}{b:List Pst}{c:List Prt}{e:List Smp}(h1:a=d.names) (h2:c=d.list.map (Ay d)) (h3:e=[]) (h4:NmI d.names→NsD d.names→(⟨a,b⟩:Idx)=idxOf d.names):ER d ⟨⟨a,b⟩,c,e⟩:=by
 subst h2 h3
 refine ⟨h1,rfl,rfl,fun x y=>?_⟩
 unfold Ar
 rw [h4 x y]
theorem ER.sg {d:Dsk}{y:Sto}(q:ER d y) (h:DD d):SG y:=by
 obtain ⟨q1,q2,q3,q4⟩:=q
 refine ⟨⟨by rw [q1]; exact h.g,fun hn=>?_⟩,by rw [q2]; exact h.sg.np,fun p hp=>h.sg.part p (by rw [← q2]; exact hp),by rw [q3]; simp,by rw [q3]; simp⟩
 rw [q1] at hn ⊢
 have:=q4 hn h.g.nd
 rw [this]
 rfl
theorem ER.eq {d:Dsk}{y:Sto}(q:ER d y) (h:DD d) (hk:BC d=true):y=Ck d:=by rw [LI hk]; exact q.2.2.2 (GQ hk).1 h.g.nd
theorem ER.dk {d:Dsk}{y:Sto}(hy:ER d y) (h:DD d) (h1:inR d.next 1 999=true) (h2:¬ (d.files.length:Int) > 20) (h3:¬ (d.list.length:Int) > 6) (h5:Dh d.next none d.files=true) (h6:EA d=true):(nmB y.idx.names&&Aa y)=BC d:=Zz h1 h2 h3 h5 h6 h.g.nd ⟨hy.1,hy.2.2.2⟩
end Go.Proofs.YtfninflnngpchaaGreatDoor
namespace Go.Proofs.YtfninflnngpchaaGreatDoor
set_option maxRecDepth 100000
set_option maxHeartbeats 4000000
variable {w:World} {F:Nat→Prop} {a1 a2 a3:Option Addr} {n1 c1 n2 c2 n3 c3:Nat}
theorem Ig (f:Fil) (num:Int) (h1:RepS w F a1 n1 c1 f.part.ids) (h2:RepS w F a2 n2 c2 f.part.blocks){bq_num:Nat}(hb_num:Box w bq_num 3 [.int .i64 num])  : Calls Tryz.prog 174 [.agg #[.int .i64 f.num,.slice a1 n1 c1,.slice a2 n2 c2],.pointer (some ⟨bq_num,0,none⟩)].toArray w (Am fun rv w'=>rv=.bool ((f.num==num))∧Ext w w'):=by
 cases h1.len
 cases h2.len
 refine goT func174 ?_
 have Z:=(((St.i0 F w).p h1).p h2).pb' hb_num
 exact .s<|.g<|RG.Np Z fun ac w Z=>.r 1<|.d<|.s<|.g<|.r 1<|RG.Lb 0 Z<|RG.Lh 0 0 Z<|.r 2<|.d<|T.rt func174 results174 (.bool (f.num==num)) ⟨(AG AF),Z.xt⟩
theorem JL (s:List Fil) (num:Int) (h1:RepS w F a1 n1 c1 s){bq_num:Nat}(hb_num:Box w bq_num 3 [.int .i64 num])  : Calls Tryz.prog 173 [.slice a1 n1 c1,.func (.func 174) #[] #[.pointer (some ⟨bq_num,0,none⟩)]].toArray w (Am fun rv w'=>rv=.int .i64 (DN num 0 s)∧Ext w w'):=by
 refine goT func173 ?_
 obtain ⟨rfl,az,h1⟩:=h1.tp
 refine .s<|.g<|.r 1<|.d<|.s<|.s<|.g<|.r 3<|.d<|.b 0<|T.loop (X:=Nat) 0 (fun k=>[(0,.slice a1 s.length c1),(1,.func (.func 174) #[] #[.pointer (some ⟨bq_num,0,none⟩)]),(7,vI (s.length:Int)),(8,vI (k:Int))]) (fun k ac=>Chg (ins []) w ac∧(k≤s.length)∧(DN num k (s.drop k)=DN num 0 s)) (fun k=>s.length - k) AA ⟨AA,AA,AA,AA,trivial⟩ ⟨Chg.refl _ _,AD,AD⟩ ?_
 rintro k aG ac ⟨aa,aA,aB⟩ ae
 have ag:Mv [] [] w ac:=Mv.inl aa all_nil all_nil
 replace ⟨h1,hb_num⟩:=(sp ag aa).g2 h1 hb_num
 have ab:Chg nil w ac:=Chg.Oi (Chg.refl nil w) aa all_nil
 refine .s<|.g<|.bp ((k:Int)< (s.length:Int)) (fun am=>?_) (fun am=>.d<|.s<|.cf<|.x 0 rfl<|.s<|.g<|.r 1<|.d<|.rt func173 results173 (vI (-1)) ⟨(congrArg (Value.int .i64) (by grind [DN,Ac])),ab⟩)
 refine .d<|.s<|.ct<|.sk<|.s<|.b 1<|.s<|.g<|.r 2<|.d<|.s<|.g<|.r 3 ?_
 have ao:k< s.length:=AB
 refine .ix k 3 h1 ao ?_
 obtain ⟨ai,af⟩:∃ y,s[k]? = some y:=⟨_,AU AB⟩
 have aC:=drop_at af
 obtain ⟨_,⟨aH,aI,aJ,aK,aL,aM,rfl,aj,ak⟩,aq⟩:=h1.elem k ai af
 have ar:=aj.len
 subst ar
 have ax:=ak.len
 subst ax
 refine .lg 0 aq<|.cl (Ig ai num aj.ta ak.ta hb_num (w:=ac) (F:=all)) ?_
 rintro aN aO ⟨rfl,ah⟩
 replace ⟨hb_num,ab,aa⟩:=(se [] ah).g3 hb_num ab aa
 cases aF:(ai.num==num)
 ·exact .d<|.cf<|.sk<|.ib 1<|.g<|.it ((k:Int)+1)<|.r 1<|.d<|ae (k+1) _ _ ⟨AA,AA,AA,AA,trivial⟩ ⟨aa,AB,(by grind [DN])⟩ AB
 exact .d<|.ct<|.s<|.g<|.r 2<|.d<|.rt func173 results173 (vI (k:Int)) ⟨(congrArg (Value.int .i64) (by grind [DN,Ac])),ab⟩
theorem Cq (d:Dsk) (num:Int) (h1:RepS w F a1 n1 c1 d.files) (h2:RepS w F a2 n2 c2 d.list) (h3:RepS w F a3 n3 c3 d.names)  : Calls Tryz.prog 124 [.agg #[.slice a1 n1 c1,.slice a2 n2 c2,.slice a3 n3 c3,.int .i64 d.next],.int .i64 num].toArray w (Am fun rv w'=>rv=.int .i64 (At d num)∧Ext w w'):=by
 cases h1.len
 cases h2.len
 cases h3.len
 refine goT func124 ?_
 have Z:=(((St.i0 F w).p h1).p h2).p h3
 exact .s<|.g<|RG.Np Z fun ae w Z=>RG.Np Z fun af w Z=>.r 1<|.d<|.s<|.g<|.r 1<|RG.Lb 1 Z<|.r 1<|RG.C0 (JL d.files num (Z.a 2) (Z.bc 0)) Z fun w Z=>.r 1<|.d<|T.rt func124 results124 (vI (DN num 0 d.files)) ⟨(congrArg (Value.int .i64) AF),Z.xt⟩
theorem Cf (s:List Int) (v:Int) (h1:RepS w F a1 n1 c1 s)  : Calls Tryz.prog 171 [.slice a1 n1 c1,.int .i64 v].toArray w (Am fun rv w'=>rv=.bool (s.contains v)∧Ext w w'):=by
 cases h1.len
 refine goT func171 ?_
 have Z:=(St.i0 F w).p h1
 exact .s<|.g<|.r 1<|.d<|.s<|.g<|.r 2<|RG.C0 (EH s v (Z.a 0)) Z fun w Z=>.r 2<|.d<|T.rt func171 results171 (.bool (decide (Eh v 0 s≥0))) ⟨(AG (by exact (UM v s 0).symm)),Z.xt⟩
theorem El (d:Dsk) (h1:RepS w F a1 n1 c1 d.files) (h2:RepS w F a2 n2 c2 d.list) (h3:RepS w F a3 n3 c3 d.names) (p0:DD d) (p1:∀ n∈d.list,0≤At d n):Calls Tryz.prog 167 [.agg #[.slice a1 n1 c1,.slice a2 n2 c2,.slice a3 n3 c3,.int .i64 d.next]].toArray w (Am fun rv w'=>(∃ (y:Sto),VS (ge w.heap.size) w' (y:Sto) rv∧(ER d y))∧Ext w w'):=by
 cases h1.len
 cases h2.len
 cases h3.len
 refine goT func167 ?_
 have Z:=(((St.i0 F w).p h1).p h2).p h3
 have aL:=h2.max
 refine .s<|.g<|RG.Np Z fun ao w Z=>RG.Np Z fun aq w Z=>.d<|.s<|.g<|.r 1<|RG.Lb 1 Z<|RG.cl (Gz d.names (Z.a 0) p0.g.len p0.g.l5 p0.g.bl) ?_
 rintro aW w ⟨⟨ah,aA,aN⟩,ar⟩
 refine RG.vS Z aA ar ?_
 intro aB aC aD aE Z
 refine RG.N0 Prt 0 Z fun aF w Z=>RG.N0 Smp 0 Z fun aG w Z=>.r 1<|RG.Np Z fun aj w Z=>RG.Ss 0 Z fun w Z=>.d<|.s<|.s<|.g<|.r 1<|RG.Lb 4 Z<|.r 2<|.d<|.b 0<|T.Lp ((0:Nat),(ah.names:List (List Tag)),aB,aC,(ah.AY:List Pst),aD,aE,([]:List Prt),aF,(0:Nat),([]:List Smp),aG,(0:Nat)) (fun (k,ab,a_s_0,c_s_0,ac,a_s_1,c_s_1,aa,r_s_2,c_s_2,ae,r_s_3,c_s_3)=>([(1,vP ao),(2,vP aq),(3,vP aj),(13,.slice a2 d.list.length c2),(14,vI (d.list.length:Int)),(15,vI (k:Int))],[(0,.box aj 31 [.slice a_s_0 ab.length c_s_0,.slice a_s_1 ac.length c_s_1,vS r_s_2 aa.length c_s_2,vS r_s_3 ae.length c_s_3]),(1,.own 0 r_s_3 106 c_s_3 ae),(2,.own 0 r_s_2 104 c_s_2 aa)],[⟨0,none,.rep a_s_0 c_s_0 ab⟩,⟨0,none,.rep a_s_1 c_s_1 ac⟩],d.list.length - k,(k≤d.list.length)∧(aa.length≤k)∧(aa++(d.list.drop k).map (Ay d)=d.list.map (Ay d))∧(ae=[])∧(ab=d.names)∧((NmI d.names→NsD d.names→(⟨ab,ac⟩:Idx)=idxOf d.names)))) [0,1] Z ⟨AD,AD,AF,AF,(by have q1:ah.names=d.names∧(NmI d.names→NsD d.names→ah=idxOf d.names):=‹_›; exact q1.1),(by have q1:ah.names=d.names∧(NmI d.names→NsD d.names→ah=idxOf d.names):=‹_›; exact q1.2)⟩ ?_
 rintro ⟨k,ab,a_s_0,c_s_0,ac,a_s_1,c_s_1,aa,r_s_2,c_s_2,ae,r_s_3,c_s_3⟩ aX w Z ⟨aO,aP,aQ,aR,aS,aT⟩ ai
 refine .s<|.g<|.bp ((k:Int)< (d.list.length:Int)) (fun ax=>?_) (fun ax=>?_)
 ·refine .d<|.s<|.ct<|.sk<|.s<|.b 1<|.s<|.g<|gx (h:=AB) d.list k fun ak af=>?_
  have aU:=drop_at af; have ay:=AV af
  refine RG.Ix 5 af Z<|Z.el 5 af fun Z=>RG.Lh 0 0 Z<|.r 1<|.d<|T.GS 12 [aj,aq,ao] Z fun _ w Z=>.r [0]<|GA.Lb 1 0 Z<|.r [2]<|GA.Lb (q:=2) 3 4 Z<|GA.Ln (q:=2) 4 4 Z<|.r [5]<|GA.D0 6 Z (fun w Y=>Cq d ak (Y.a 7) (Y.a 6) (Y.a 5))<|gx (h:=(by exact (Hy (p1 _ ‹_›)).1)) d.files ((At d ak).toNat) fun am ag=>?_
  have az:=AV ag
  exact GA.Jx (hz:=(by exact (Hy (p1 _ ‹_›)).2)) 7 7 (At d ak) ag Z<|.r [8]<|Z.el 7 ag fun aY aZ ba bd Z=>GA.Lg 9 0 1 Z<|.go 10<|GE.CS (fun w Z=>As am.part (Z.a 1) (Z.a 2) (p0.file _ ‹_›).sz) Z fun bg bh bi bj w Z=>.go 11<|GE.Nb 1 Z fun bk w Z=>GA.Do Z fun w Z=>RG.Ap (hs:=by exact (by have:=p0.nl; omega)) 2 0 aa am.part [0,1] Z fun aI aJ w Z=>.r 1<|RG.Ss 0 Z fun w Z=>.d<|.ib 1<|.g<|RG.int ((k:Int)+1) AA AB<|.r 1<|.d<|ai (k+1,ab,a_s_0,c_s_0,ac,a_s_1,c_s_1,(aa++[am.part]),aI,aJ,ae,r_s_3,c_s_3) _ _ AA (Z.to 0 [6,7] 8) ⟨AB,(by simp; omega),(by exact Sj ‹_› ‹_› ‹_›),‹_›,‹_›,‹_›⟩ (by (simp only []; omega))
 refine .d<|.s<|.cf<|.x 0 rfl<|.s<|.g<|RG.Ln 0 Z<|RG.Ss 3 Z fun w Z=>.d ?_
 have Z:=(Z.sl 2).sl 1
 exact T.Rb 1 func167 results167 Z ⟨⟨((⟨(⟨ab,ac⟩:Idx),aa,ae⟩:Sto):Sto),Z.rS (⟨(⟨ab,ac⟩:Idx),aa,ae⟩:Sto) [2,3,1,0] rfl,(by exact ER.mk ‹_› (UP ‹_› AB) ‹_› ‹_›)⟩,Z.xt⟩
theorem DC (d:Dsk) (h1:RepS w F a1 n1 c1 d.files) (h2:RepS w F a2 n2 c2 d.list) (h3:RepS w F a3 n3 c3 d.names) (p0:DD d):Calls Tryz.prog 122 [.agg #[.slice a1 n1 c1,.slice a2 n2 c2,.slice a3 n3 c3,.int .i64 d.next]].toArray w (Am fun rv w'=>rv=.bool (BC d)∧Ext w w'):=by
 cases h1.len
 cases h2.len
 cases h3.len
 refine goT func122 ?_
 have Z:=(((St.i0 F w).p h1).p h2).p h3
 have aI:=h1.max
 have aJ:=h2.max
 refine .s<|.g<|RG.Np Z fun am w Z=>.r 1<|.d<|.s<|.s<|.g<|.r 1<|RG.Lb 0 Z<|RG.C0 (Bk d.next 1 999 (F:=all)) Z fun w Z=>?_
 cases ai:(inR d.next 1 999)
 ·exact .r 13<|.d<|.ct<|.s<|.g<|.r 1<|.d<|T.rt func122 results122 (.bool false) ⟨(AG (by symm; exact YA (.inl ‹_›))),Z.xt⟩
 have aM:=BW ai
 refine .r 3<|RG.Lb 0 Z<|.r 1<|.bp ((d.files.length:Int) > 20) (fun ao=>.r 7<|.d<|.ct<|.s<|.g<|.r 1<|.d<|T.rt func122 results122 (.bool false) ⟨(AG (by symm; exact YA (.inr (.inl ‹_›)))),Z.xt⟩) fun ao=>.r 3<|RG.Lb 0 Z<|.r 1<|.bp ((d.list.length:Int) > 6) (fun aq=>.r 1<|.d<|.ct<|.s<|.g<|.r 1<|.d<|T.rt func122 results122 (.bool false) ⟨(AG (by symm; exact YA (.inr (.inr (.inl ‹_›))))),Z.xt⟩) fun aq=>.r 1<|.d<|.cf<|.sk<|.s<|.s<|.g<|.r 1<|RG.Lb 0 Z<|.r 2<|.d<|.b 0<|T.Lp (0:Nat) (fun k=>([(1,vP am),(24,.slice a1 d.files.length c1),(25,vI (d.files.length:Int)),(26,vI (k:Int))],[],[],d.files.length - k,(k≤d.files.length)∧(Dh d.next (Kx d.files k) (d.files.drop k)=Dh d.next none d.files))) [] Z ⟨AD,AF⟩ ?_
 rintro k bd w Z ⟨aN,aO⟩ aa
 refine .s<|.g<|.bp ((k:Int)< (d.files.length:Int)) (fun ar=>?_) (fun ar=>?_)
 ·refine .d<|.s<|.ct<|.sk<|.s<|.b 1<|.s<|.g<|.r 1<|gx d.files k fun ab ac=>?_
  have aP:=drop_at ac
  refine RG.Ix 2 ac Z<|Z.el 2 ac fun bg bh bi bj Z=>RG.Lg 0 0 Z<|RG.Np Z fun bk w Z=>.r 1<|RG.Ss 0 Z fun w Z=>.d<|.s<|T.Gd 20 Z fun w Z=>.r [0]<|GA.Lb 1 0 Z<|.r [2]<|GA.Lb 3 1 Z<|GA.int (i:=4) (d.next - 1) AA (by have q1:=p0.next; omega)<|GA.C0 5 Z (fun w Z=>Bk ab.num 1 (d.next - 1) (F:=all)) ?_
  cases aj:(inR ab.num 1 (d.next - 1))
  ·exact .r [6,7]<|GA.Sk Z fun w Z=>.r 9<|.d<|.ct<|.s<|.g<|.r 1<|.d<|T.rt func122 results122 (.bool false) ⟨(AG (by symm; exact WU (OH ‹_› ‹_› (.inl ‹_›)))),Z.xt⟩
  refine .r [6,7,8]<|GA.HB (i:=9) ((k:Int) > 0) AA (fun ax=>?_) (fun ax=>?_)
  ·refine .r [10,11]<|GA.Lb 12 1 Z<|.r [13]<|GA.int (i:=14) ((k:Int) - 1) AA (by have q1:=p0.next; omega)<|gx d.files (k - 1) fun aG ae=>?_
   refine GA.Jx 15 5 ((k:Int) - 1) ae Z<|.r [16]<|Z.el 5 ae fun bm bn bo bq Z=>GA.Lh 17 0 0 Z<|.r [18]<|GA.Lb 19 0 Z<|GA.Dn Z fun w Z=>.bp (aG.num≥ab.num) (fun ay=>.r 8<|.d<|.ct<|.s<|.g<|.r 1<|.d<|T.rt func122 results122 (.bool false) ⟨(AG (by symm; exact WU (OH ‹_› ‹_› (.inr (.inl ⟨by omega,_,by assumption,by assumption⟩))))),Z.xt⟩) fun ay=>.r 4<|RG.Ln 0 Z<|RG.C0 (DB ab.part (Z.a 4) (Z.a 5)) Z fun w Z=>?_
   cases aT:(Av ab.part)
   ·exact .r 2<|.d<|.ct<|.s<|.g<|.r 1<|.d<|T.rt func122 results122 (.bool false) ⟨(AG (by symm; exact WU (OH ‹_› ‹_› (.inr (.inr ‹_›))))),Z.xt⟩
   exact .r 2<|.d<|.cf<|.sk<|.ib 1<|.g<|RG.int ((k:Int)+1) AA (by have q1:=p0.next; omega)<|.r 1<|.d<|aa (k+1) _ _ AA (Z.to 1 [] 6) ⟨AB,(by exact PN ‹_› ‹_› ‹_› ‹_› (.inr ⟨_,by assumption,by assumption⟩) ‹_›)⟩ (by (simp only []; omega))
  refine .r [10]<|GA.Sk Z fun w Z=>.r 5<|RG.Ln 0 Z<|RG.C0 (DB ab.part (Z.a 1) (Z.a 2)) Z fun w Z=>?_
  cases aU:(Av ab.part)
  ·exact .r 2<|.d<|.ct<|.s<|.g<|.r 1<|.d<|T.rt func122 results122 (.bool false) ⟨(AG (by symm; exact WU (OH ‹_› ‹_› (.inr (.inr ‹_›))))),Z.xt⟩
  exact .r 2<|.d<|.cf<|.sk<|.ib 1<|.g<|RG.int ((k:Int)+1) AA (by have q1:=p0.next; omega)<|.r 1<|.d<|aa (k+1) _ _ AA (Z.to 1 [] 3) ⟨AB,(by exact PN ‹_› ‹_› ‹_› ‹_› (.inl AB) ‹_›)⟩ (by (simp only []; omega))
 refine .d<|.s<|.cf<|.x 0 rfl<|.s<|.s<|.g<|.r 1<|RG.Lb 0 Z<|.r 2<|.d<|.b 2<|T.Lp (0:Nat) (fun k=>([(1,vP am),(62,.slice a2 d.list.length c2),(63,vI (d.list.length:Int)),(64,vI (k:Int))],[],[],d.list.length - k,(k≤d.list.length)∧(Dh d.next none d.files=true)∧(UN d k))) [] Z ⟨AD,(by exact WT ‹_› AB),(by exact X6 _)⟩ ?_
 rintro k br w Z ⟨aV,aW,aX⟩ ag
 refine .s<|.g<|.bp ((k:Int)< (d.list.length:Int)) (fun az=>?_) (fun az=>?_)
 ·refine .d<|.s<|.ct<|.sk<|.s<|.b 3<|.s<|.g<|.r 1<|gx d.list k fun ah af=>?_
  refine RG.Ix 1 af Z<|Z.el 1 af fun Z=>RG.Lh 0 0 Z<|.r 2<|.d<|.s<|.g<|RG.Ln 0 Z<|.r 1<|RG.C0 (Cq d ah (Z.a 3) (Z.a 2) (Z.a 1)) Z fun w Z=>.bp (At d ah< 0) (fun aA=>.r 8<|.d<|.ct<|.s<|.g<|.r 1<|.d<|T.rt func122 results122 (.bool false) ⟨(AG (by symm; exact ZN (X7 ‹_› ‹_›))),Z.xt⟩) fun aA=>.r 2<|RG.Lb 0 Z<|.r 1<|RG.Sb (hhi:=bdS AA) 2 0 k d.list Z fun bu bv Z=>.r 1<|RG.C0 (Cf ((d.list.take k).drop 0) ah (Z.a 0)) Z fun w Z=>?_
  cases aZ:((d.list.take k).drop 0).contains ah
  ·exact .r 1<|.d<|.cf<|.sk<|.ib 3<|.g<|RG.int ((k:Int)+1) AA (by have q1:=p0.next; omega)<|.r 1<|.d<|ag (k+1) _ _ AA (Z.to 0 [] 2) ⟨AB,‹_›,(by exact Si ‹_› ‹_› ‹_› (UO ‹_›) (Nat.le_refl _))⟩ (by (simp only []; omega))
  exact .r 1<|.d<|.ct<|.s<|.g<|.r 1<|.d<|T.rt func122 results122 (.bool false) ⟨(AG (by symm; exact ZN (X9 ‹_› ‹_›))),Z.xt⟩
 refine .d<|.s<|.cf<|.x 2 rfl<|.s<|.g<|RG.Ln 0 Z<|RG.cl (El d (Z.a 2) (Z.a 1) (Z.a 0) p0 (E0 (PO ‹_› AB))) ?_
 rintro bw w ⟨⟨ak,aH,ba⟩,aB⟩
 refine RG.vS Z aH aB ?_
 intro bz bA bB bC bD bE bF bG Z
 exact RG.C0 (E4 ak (Z.a 0) (Z.a 1) (Z.a 2) (Z.a 3) (ER.sg (by assumption:ER d _) p0)) Z fun w Z=>.r 1<|.d<|T.rt func122 results122 (.bool (nmB ak.idx.names&&Aa ak)) ⟨(AG (by exact ER.dk (by assumption:ER d _) p0 ‹_› AB AB ‹_› (PO ‹_› AB))),Z.xt⟩
theorem Ky (d:Dsk) (h1:RepS w F a1 n1 c1 d.files) (h2:RepS w F a2 n2 c2 d.list) (h3:RepS w F a3 n3 c3 d.names) (p0:DD d):Calls Tryz.prog 127 [.agg #[.slice a1 n1 c1,.slice a2 n2 c2,.slice a3 n3 c3,.int .i64 d.next]].toArray w (Am fun rv w'=>VS (fo F w.heap.size) w' (Ck d:Sto) rv∧Ext w w'):=by
 cases h1.len
 cases h2.len
 cases h3.len
 refine goT func127 ?_
 have Z:=(((St.i0 F w).p h1).p h2).p h3
 refine .s<|.g<|RG.Np Z fun aj w Z=>RG.Np Z fun ak w Z=>.d<|.s<|.s<|.g<|RG.Ln 1 Z<|RG.C0 (DC d (Z.a 2) (Z.a 1) (Z.a 0) p0) Z fun w Z=>?_
 cases ah:(BC d)
 ·refine .r 1<|.d<|.ct<|.s<|.g<|.r 1<|RG.Ss 0 Z fun w Z=>.d ?_
  have Z:=(((Z.nl (List Tag)).nl Pst).nl Prt).nl Smp
  exact T.Rb 0 func127 results127 Z ⟨Z.rS (g:=1) (⟨(⟨([]:List (List Tag)),([]:List Pst)⟩:Idx),([]:List Prt),([]:List Smp)⟩:Sto) [3,2,1,0] (by exact (WW ‹_›).symm),Z.xt⟩
 refine .r 1<|.d<|.cf<|.sk<|.s<|.g<|RG.Ln 1 Z<|RG.cl (El d (Z.a 2) (Z.a 1) (Z.a 0) p0 (E0 (GQ ‹_›).2.2)) ?_
 rintro am w ⟨⟨ab,ac,ai⟩,aa⟩
 refine RG.vS Z ac aa ?_
 intro ao aq ar ax ay az aA aB Z
 exact RG.Ss 0 Z fun w Z=>.d<|T.Rb 0 func127 results127 Z ⟨Z.rS (g:=1) ab [0,1,2,3] (by exact ER.eq (by assumption:ER d _) p0 ‹_›),Z.xt⟩
end Go.Proofs.YtfninflnngpchaaGreatDoor
namespace Go.Proofs.YtfninflnngpchaaGreatDoor
structure MI (s y:Sto) (i:Nat):Prop where
 sd:SD y
 ok:Aa y=true
 idx:y.idx=s.idx
 mem:y.mem=s.mem
 lo:1≤y.parts.length
 hi:y.parts.length≤1∨y.parts.length+i≤6
 rows:∀ id:Int,1≤id→id≤6→y.parts.foldl (Bv id) []=s.parts.foldl (Bv id) []
theorem MI.step {s y:Sto}{i:Nat}{a:Int}(h:MI s y i) (h1:(BR y a).2=true):MI s (BR y a).1 (i+1):=by
 obtain ⟨hk,h2,h3,e⟩:=LH h.sd h1
 have hl:=Sh h.sd h1
 refine ⟨UL h.sd h1,(QX h.sd h1).2,by rw [e]; exact h.idx,by rw [e]; exact h.mem,by omega,?_,fun id a1 a2=>?_⟩
 ·have:=h.hi; omega
 ·rw [e,(Ez (StoK.of h.sd hk) AB a1 a2).1]
  exact h.rows id a1 a2
theorem MI.one {s y:Sto}{i:Nat}(h:MI s y i) (hi:6≤i):y.parts.length=1:=by have:=h.lo; have:=h.hi; omega
theorem UQ:∀ (is:List Int) (bs:List (List Row)) (o:Option Int),Br o is bs=true→is.length=bs.length→∀ is' bs',Br o is' bs'=true→is'.length=bs'.length→(∀ id:Int,Bd id is bs=Bd id is' bs')→is=is'∧bs=bs':=by
 have low:∀ (is:List Int) (bs:List (List Row)) (o:Option Int),Br o is bs=true→∀ q,o=some q→∀ i∈is,q< i:=by
  intro is
  induction is with
  | nil=>intro bs o _ q _ i hi; cases hi
  | cons x xs ih =>
    intro bs o hg q hq i hi
    cases bs with
    | nil=>simp [Br] at hg
    | cons b bs =>
      simp only [Br,AW] at hg
      have hx:q< x:=by have:=hg.1.1.1.2; rw [hq] at this; simpa using this
      rcases List.mem_cons.1 hi with rfl | hi
      ·exact hx
      ·have:=ih bs (some x) hg.2 x rfl i hi; omega
 have none_of:∀ (is:List Int) (bs:List (List Row)) (id:Int),(∀ i∈is,i≠id)→Bd id is bs=[]:=by
  intro is
  induction is with
  | nil=>intro bs id _; unfold Bd; rfl
  | cons i is ih =>
    intro bs id h
    cases bs with
    | nil=>unfold Bd; rfl
    | cons b bs =>
      unfold Bd
      rw [if_neg (by have:=h i AD; simpa using this)]
      exact ih bs id (fun j hj=>h j (by simp [hj]))
 have mem_of:∀ (is:List Int) (bs:List (List Row)) (id:Int),Bd id is bs≠[]→id∈is:=by
  intro is bs id h
  rcases Classical.em (id∈is) with h1 | h1
  ·exact h1
  ·exact absurd (none_of is bs id (fun i hi e=>h1 (e▸hi))) h
 intro is
 induction is with
 | nil =>
   intro bs o hg hl is' bs' hg' hl' h
   cases bs with
   | cons _ _=>simp at hl
   | nil =>
     cases is' with
     | nil =>
       cases bs' with
       | nil=>exact ⟨rfl,rfl⟩
       | cons _ _=>simp at hl'
     | cons i is' =>
       cases bs' with
       | nil=>simp at hl'
       | cons b bs' =>
         simp only [Br,AW,decide_eq_true_eq] at hg'
         have:=h i
         unfold Bd at this
         rw [if_pos AD] at this
         rw [← this] at hg'
         exact absurd hg'.1.1.2 AD
 | cons i is ih =>
   intro bs o hg hl is' bs' hg' hl' h
   cases bs with
   | nil=>simp at hl
   | cons b bs =>
     have hg0:=hg
     simp only [Br,AW,decide_eq_true_eq] at hg
     cases is' with
     | nil =>
       cases bs' with
       | cons _ _=>simp at hl'
       | nil =>
         have:=h i
         unfold Bd at this
         rw [if_pos AD] at this
         rw [this] at hg
         exact absurd hg.1.1.2 AD
     | cons i' is' =>
       cases bs' with
       | nil=>simp at hl'
       | cons b' bs' =>
         have hg0':=hg'
         simp only [Br,AW,decide_eq_true_eq] at hg'
         have a1:Bd i (i'::is') (b'::bs')=b:=by rw [← h i]; unfold Bd; rw [if_pos AD]
         have a2:Bd i' (i::is) (b::bs)=b':=by rw [h i']; unfold Bd; rw [if_pos AD]
         have m1:=mem_of _ _ i (by rw [a1]; exact List.ne_nil_of_length_pos hg.1.1.2)
         have m2:=mem_of _ _ i' (by rw [a2]; exact List.ne_nil_of_length_pos hg'.1.1.2)
         have hii:i=i':=by
          rcases List.mem_cons.1 m1 with e | e
          ·exact e
          ·rcases List.mem_cons.1 m2 with e2 | e2
           ·exact e2.symm
           ·have:=low is' bs' (some i') hg'.2 i' rfl i e
            have:=low is bs (some i) hg.2 i rfl i' e2
            omega
         subst hii
         have hbb:b=b':=by
          rw [← a1]
          unfold Bd
          rw [if_pos AD]
         subst hbb
         have:=ih bs (some i) hg.2 (by simpa using hl) is' bs' hg'.2 (by simpa using hl') (fun id=>by
          by_cases e:i=id
          ·subst e
           rw [none_of is bs i (fun j hj e=>by have:=low is bs (some i) hg.2 i rfl j hj; omega),none_of is' bs' i (fun j hj e=>by have:=low is' bs' (some i) hg'.2 i rfl j hj; omega)]
          ·have:=h id
           unfold Bd at this
           rw [if_neg (by simpa using e),if_neg (by simpa using e)] at this
           exact this)
         rw [this.1,this.2]
         exact ⟨rfl,rfl⟩
theorem PQ {p q:Prt}(hp:Av p=true) (hq:Av q=true) (h:∀ id:Int,partOf p id=partOf q id):p=q:=by
 unfold Av at hp hq
 simp only [AW,decide_eq_true_eq] at hp hq
 obtain ⟨e1,e2⟩:=UQ p.ids p.blocks none hp.2 hp.1 q.ids q.blocks hq.2 hq.1 h
 cases p
 cases q
 simp only [Prt.mk.injEq]
 exact ⟨e1,e2⟩
theorem MI.same {s y z:Sto}{i:Nat}(hy:MI s y i) (hz:MI s z i) (hi:6≤i){p q:Prt}(hp:y.parts[0]? = some p) (hq:z.parts[0]? = some q) (hf:(p==q)=false):False:=by
 have l1:=hy.one hi
 have l2:=hz.one hi
 have e1:y.parts=[p]:=by
  match hh:y.parts,l1 with
  | [x],_=>rw [hh] at hp; simp at hp; rw [hp]
 have e2:z.parts=[q]:=by
  match hh:z.parts,l2 with
  | [x],_=>rw [hh] at hq; simp at hq; rw [hq]
 have kp:=(StoK.of hy.sd hy.ok).part p (by rw [e1]; simp)
 have kq:=(StoK.of hz.sd hz.ok).part q (by rw [e2]; simp)
 have key:p=q:=PQ kp.2 kq.2 (fun id=>by
  by_cases hid:1≤id∧id≤6
  ·have h1:=hy.rows id hid.1 hid.2
   have h2:=hz.rows id hid.1 hid.2
   rw [e1] at h1
   rw [e2] at h2
   simp only [List.foldl_cons,List.foldl_nil] at h1 h2
   unfold Bv at h1 h2
   rw [L2 (kp.1.of id)] at h1
   rw [L2 (kq.1.of id)] at h2
   rw [h1,h2]
  ·have g:∀ p:Prt,Av p=true→partOf p id=[]:=fun p hp=>by
    unfold Av at hp
    simp only [AW,decide_eq_true_eq] at hp
    have key:∀ (is:List Int) (bs:List (List Row)) (o:Option Int),Br o is bs=true→Bd id is bs=[]:=by
     intro is
     induction is with
     | nil=>intro bs o _; unfold Bd; rfl
     | cons i is ih =>
       intro bs o hg
       cases bs with
       | nil=>unfold Bd; rfl
       | cons b bs =>
         simp only [Br,AW] at hg
         have h5:=BW hg.1.1.1.1
         unfold Bd
         rw [if_neg (by simp; omega)]
         exact ih bs _ hg.2
    exact key _ _ _ hp.2
   rw [g p kp.2,g q kq.2])
 rw [key] at hf
 simp at hf
end Go.Proofs.YtfninflnngpchaaGreatDoor
namespace Go.Proofs.YtfninflnngpchaaGreatDoor
theorem WD.dd {w:Wld}(h:WD w):DD w.disk:=⟨NmG.of h.wi.dsk.nm h.dn,by have:=h.wi.dsk.nl; omega,h.wi.dsk.nf,h.wi.dsk.file,by have:=h.wi.dsk.next; omega⟩
end Go.Proofs.YtfninflnngpchaaGreatDoor
namespace Go.Proofs.YtfninflnngpchaaGreatDoor
theorem RG.b2s {P:Program}{n:Nat}{K:Env→World→Prop}{ops:Array Oper}{j:Nat}{e:Env}{w:World}{s d:TypeId}{r c:Nat}{y:UInt8}{t:TypeId}{F:Nat→Prop}
 (ho:Own w r t F 1 c [y]) (h:TS n ops j e=some (s,d,.slice (some ⟨r,0,none⟩) 1 c)) (ht:Vl P s d=true)
 (H:RG P n K ops (j+1) (Aj e (Ad ops j).dst (.string (bs [y]))) w):RG P n K ops j e w:=by
 obtain ⟨cs,h1,h2⟩:=ho.elem 0 y rfl
 cases h1
 have h3:Has w ⟨r,0,none⟩ [.int .u8 (y.toNat:Int)]:=by simpa using h2
 have h4:=Jm (P:=P) (w:=w) h (Ll h3 ht)
 exact RG.val h4.1 h4.2 H
theorem RU {n:Int}(h:0≤n∧n≤255):∃ y:UInt8,(y.toNat:Int)=n:=by
 refine ⟨UInt8.ofNat n.toNat,?_⟩
 rw [UInt8.toNat_ofNat']
 omega
theorem NM {n:Int}{y:UInt8}(h:(y.toNat:Int)=n):Value.int .u8 (IntKind.u8.wrap n)=Value.int .u8 (y.toNat:Int):=by
 have:=UInt8.toNat_lt y
 rw [← h,IntWalk.u8_in _ AB]
theorem PR:∀ (fs:List Fil) (nx:Int) (o:Option Int),Dh nx o fs=true→∀ f∈fs,1≤f.num∧f.num≤nx - 1∧Av f.part=true:=by
 intro fs
 induction fs with
 | nil=>intro nx o _ f hf; cases hf
 | cons x xs ih =>
   intro nx o h f hf
   unfold Dh at h
   simp only [AW] at h
   rcases List.mem_cons.1 hf with rfl | hf
   ·have:=BW h.1.1.1
    exact ⟨this.1,this.2,h.1.2⟩
   ·exact ih nx _ h.2 f hf
theorem QY {p:Prt}(h:PrtI p) (hk:Av p=true):BF p ⟨[],[]⟩=p:=by
 have hb:∀ id:Int,(partOf p id).length≤24:=fun id=>by
  have:=GO hk id
  unfold Bi at this
  simp only [AW,decide_eq_true_eq] at this
  exact this.2
 have e:∀ id:Int,partOf (⟨[],[]⟩:Prt) id=[]:=fun id=>by unfold partOf Bd; rfl
 have hz:∀ id:Int,¬ (1≤id∧id≤6)→∀ q:Prt,Av q=true→partOf q id=[]:=fun id hid q hq=>by
  unfold Av at hq
  simp only [AW,decide_eq_true_eq] at hq
  have key:∀ (is:List Int) (bs:List (List Row)) (o:Option Int),Br o is bs=true→Bd id is bs=[]:=by
   intro is
   induction is with
   | nil=>intro bs o _; unfold Bd; rfl
   | cons i is ih =>
     intro bs o hg
     cases bs with
     | nil=>unfold Bd; rfl
     | cons b bs =>
       simp only [Br,AW] at hg
       have h5:=BW hg.1.1.1.1
       unfold Bd
       rw [if_neg (by simp; omega)]
       exact ih bs _ hg.2
  exact key _ _ _ hq.2
 have hm:Av (BF p ⟨[],[]⟩)=true:=by
  unfold BF
  refine PA (fun b hb2=>?_) (by rw [D7]; omega)
  unfold BY at hb2
  obtain ⟨i,_,rfl⟩:=List.mem_map.1 hb2
  rw [e,L1]
  exact ⟨h.of _,hb _⟩
 refine PQ hm hk (fun id=>?_)
 by_cases hid:1≤id∧id≤6
 ·rw [NL _ _ hid.1 hid.2,e,L1]
 ·rw [hz id hid _ hm,hz id hid _ hk]
theorem C9 {d:Dsk}(h:BC d=true):(1≤d.next∧d.next≤999)∧d.list.length≤6∧Dh d.next none d.files=true∧EA d=true:=by
 unfold BC at h
 simp only [AW,decide_eq_true_eq] at h
 exact ⟨BW h.1.1.1.1.1,h.1.1.1.2,h.1.1.2,h.1.2⟩
theorem DD.XL {d:Dsk}(h:DD d) (hk:BC d=true):BU d=d:=by
 have hf:=(C9 hk).2.2.1
 have:d.files.map Li=d.files:=by
  have key:∀ f∈d.files,Li f=f:=fun f hm=>by
   unfold Li
   rw [QY (h.file f hm) (PR _ _ _ hf f hm).2.2]
  exact (List.map_congr_left key).trans (List.map_id _)
 unfold BU
 rw [this]
theorem DD.di {d:Dsk}(h:DD d) (hk:BC d=true):DskI d:=by
 obtain ⟨h1,h2,h3,h4⟩:=C9 hk
 have hth:∀ n∈d.list,∃ f∈d.files,f.num=n:=fun n hn=>(FQ d n).1 (E0 h4 n hn)
 refine ⟨(GQ hk).1,h.nf,h.file,h2,hth,fun n hn=>?_,h1⟩
 obtain ⟨f,hf,rfl⟩:=hth n hn
 have:=PR _ _ _ h3 f hf
 omega
theorem UR:(H6 0 [] []).length≤1000:=by decide
theorem US:DD ⟨[],[],[],0⟩:=⟨⟨by simp,NsD.nil,UR⟩,by simp,by simp,by simp,by simp⟩
end Go.Proofs.YtfninflnngpchaaGreatDoor
namespace Go.Proofs.YtfninflnngpchaaGreatDoor
def Cr (d:Dsk) (s:Sto):Bool:=BC d&&(nmB s.idx.names&&Aa s)&&decide (s.parts=d.list.map (Ay d))&&decide (d.names=s.idx.names.take d.names.length)
theorem YB {d:Dsk}{s:Sto}(h:BC d=false):false=Cr d s:=by unfold Cr; rw [h]; rfl
theorem YC {d:Dsk}{s:Sto}(h:(nmB s.idx.names&&Aa s)=false):false=Cr d s:=by unfold Cr; rw [h,Bool.and_false]; rfl
theorem YD {d:Dsk}{s:Sto}(h:s.parts≠d.list.map (Ay d)):false=Cr d s:=by unfold Cr; rw [decide_eq_false h,Bool.and_false]; rfl
theorem UT {d:Dsk}{s:Sto}(h:d.names≠s.idx.names.take d.names.length):false=Cr d s:=by unfold Cr; rw [decide_eq_false h,Bool.and_false]
theorem WX {d:Dsk}{s:Sto}(h:(s.idx.names.length:Int)< d.names.length):false=Cr d s:=UT (fun e=>by
 have:=congrArg List.length e
 rw [List.length_take] at this
 omega)
theorem PS {d:Dsk}{s:Sto}(h1:BC d=true) (h2:(nmB s.idx.names&&Aa s)=true) (h3:s.parts=d.list.map (Ay d)) (h4:d.names=s.idx.names.take d.names.length):true=Cr d s:=by unfold Cr; rw [h1,h2,decide_eq_true h3,decide_eq_true h4]; rfl
structure Fits (d:Dsk) (s:Sto):Prop where
 dk:BC d=true
 nm:nmB s.idx.names=true
 sk:Aa s=true
 p:s.parts=d.list.map (Ay d)
 m:d.names=s.idx.names.take d.names.length
theorem DM {d:Dsk}{s:Sto}(h:Cr d s=true):Fits d s:=by
 unfold Cr at h
 simp only [AW,decide_eq_true_eq] at h
 exact ⟨h.1.1.1,h.1.1.2.1,h.1.1.2.2,h.1.2,h.2⟩
def Af (d:Dsk) (s:Sto):List Stp:=if Cr d s then BB d s else []
theorem FX {d:Dsk}{s:Sto}(h:Cr d s=true):Af d s=BB d s:=by unfold Af; rw [if_pos h]
theorem PT {d:Dsk}{s:Sto}(h:Cr d s=false):Af d s=[]:=by unfold Af; rw [if_neg (by simp [h])]
end Go.Proofs.YtfninflnngpchaaGreatDoor
namespace Go.Proofs.YtfninflnngpchaaGreatDoor
theorem YE {d:Dsk}{s y:Sto}(hy:ER d y) (h:(s.parts==y.parts)=false):false=Cr d s:=YD (fun e=>by
 have e2:s.parts=y.parts:=e.trans hy.2.1.symm
 rw [e2] at h
 simp at h)
theorem YF {d:Dsk}{s y:Sto}(hy:ER d y) (h:(s.parts==y.parts)=true):s.parts=d.list.map (Ay d):=(eq_of_beq h).trans hy.2.1
theorem YG {d:Dsk}{s:Sto}(h:¬ (d.names.length:Int)≤s.idx.names.length):false=Cr d s:=WX AB
theorem YH {d:Dsk}{s y:Sto}{l:List (List Tag)}(hy:ER d y) (h1:BC d=true) (h2:(nmB s.idx.names&&Aa s)=true) (h3:(s.parts==y.parts)=true) (hl:l=s.idx.names.take d.names.length):(d.names==l)=Cr d s:=by
 subst hl
 by_cases e:d.names=s.idx.names.take d.names.length
 ·rw [beq_iff_eq.2 e]
  exact PS h1 h2 (YF hy h3) e
 ·rw [beq_eq_false_iff_ne.2 e]
  exact UT e
def FA (d:Dsk):Bool:=(d.next==999) || decide ((d.files.length:Int)=20)
theorem WY {d:Dsk}(h:(d.next==999)=true):true=FA d:=by unfold FA; rw [h]; rfl
theorem UU {d:Dsk}(h:d.next=999):true=FA d:=WY (by simp [h])
theorem WZ {d:Dsk}(h:¬ d.next=999):((d.files.length:Int)==20)=FA d:=by unfold FA; rw [beq_eq_false_iff_ne.2 h,Bool.false_or]; by_cases e:(d.files.length:Int)=20 <;> simp [e]
theorem RV {d:Dsk}(h:FA d=false):¬ d.next=999∧¬ (d.files.length:Int)=20:=by
 unfold FA at h
 simpa using h
theorem RW {d:Dsk}(h:FA d=true):d.next=999∨(d.files.length:Int)=20:=by
 unfold FA at h
 simpa using h
theorem ZO {d:Dsk}{s:Sto}(h:Cr d s=false):[]=Af d s:=(PT h).symm
theorem YI {d:Dsk}{s:Sto}(h:(s.mem.length:Int)=0∨(d.list.length:Int)=6∨FA d=true):[]=Af d s:=by
 cases hf:Cr d s with
 | false=>exact ZO hf
 | true =>
   rw [FX hf,Ei]
   rcases h with h | h | h
   ·exact .inl h
   ·exact .inr (.inl AB)
   ·rcases RW h with h | h
    ·exact .inr (.inr (.inl AB))
    ·exact .inr (.inr (.inr AB))
theorem PU {d:Dsk}{s:Sto}(hf:Cr d s=true) (h1:¬ (s.mem.length:Int)=0) (h2:¬ (d.list.length:Int)=6) (h3:FA d=false) (hd:DD d):[⟨1,d.next,Ai s.mem,[],[]⟩,⟨2,0,⟨[],[]⟩,d.list++[d.next],s.idx.names⟩]=Af d s:=by
 have hk:=(DM hf).dk
 have:=(C9 hk).2.1
 have:=(C9 hk).1
 have:=hd.nf
 have:=RV h3
 rw [FX hf,DT h1 AB AB AB]
theorem DE {d:Dsk}{s:Sto}(hs:SG s) (h:Cr d s=true):SD s:=by
 obtain ⟨h1,h2,h3,h4,h5⟩:=DM h
 exact hs.sd h2 (OE h3)
end Go.Proofs.YtfninflnngpchaaGreatDoor
namespace Go.Proofs.YtfninflnngpchaaGreatDoor
set_option maxRecDepth 100000
set_option maxHeartbeats 4000000
variable {w:World} {F:Nat→Prop} {a1 a2 a3 a4 a5 a6 a7:Option Addr} {n1 c1 n2 c2 n3 c3 n4 c4 n5 c5 n6 c6 n7 c7:Nat}
theorem ES (a:List Row) (b:List Row) (h1:RepS w F a1 n1 c1 a) (h2:RepS w F a2 n2 c2 b)  : Calls Tryz.prog 212 [.slice a1 n1 c1,.slice a2 n2 c2].toArray w (Am fun rv w'=>rv=.bool ((a==b))∧Ext w w'):=by
 cases h1.len
 cases h2.len
 refine goT func212 ?_
 have Z:=((St.i0 F w).p h1).p h2
 have ak:=h1.max
 refine .s<|.g<|.r 1<|.d<|.s<|.s<|.g<|.r 4<|.ne (a.length:Int) (b.length:Int) (fun ae=>.d<|.ct<|.s<|.g<|.r 1<|.d<|T.rt func212 results212 (.bool false) ⟨(AG (by grind [Ac])),Z.xt⟩) fun ae=>.d<|.cf<|.sk<|.s<|.s<|.g<|.r 3<|.d<|.b 0<|T.Lp (0:Nat) (fun k=>([(0,.slice a1 a.length c1),(1,.slice a2 b.length c2),(12,vI (a.length:Int)),(13,vI (k:Int))],[],[],a.length - k,(k≤a.length)∧(a.drop k=b.drop k↔a=b))) [] Z ⟨AD,AD⟩ ?_
 rintro k az w Z ⟨ao,aq⟩ ac
 refine .s<|.g<|.bp ((k:Int)< (a.length:Int)) (fun af=>?_) (fun af=>.d<|.s<|.cf<|.x 0 rfl<|.s<|.g<|.r 1<|.d<|T.rt func212 results212 (.bool true) ⟨(AG (by grind [Ac])),Z.xt⟩)
 refine .d<|.s<|.ct<|.sk<|.s<|.b 1<|.s<|.g<|.r 2<|.d<|.s<|T.Gd 8 Z fun w Z=>.r [0,1]<|gx a k fun ag aa=>?_
 have ar:=drop_at aa
 refine GA.Ix 2 1 aa Z<|Z.el 1 aa fun Z=>GA.Lg 3 0 0 Z<|.r [4,5]<|gx b k fun ah ab=>?_
 have ax:=drop_at ab
 refine GA.Ix 6 1 ab Z<|Z.el 1 ab fun Z=>GA.Lg 7 0 0 Z<|GA.Dn Z fun w Z=>RG.XA (t:=58) (x:=ag) (y:=ah) AA AA ?_
 cases ay:(ag==ah)
 ·exact .d<|.ct<|.s<|.g<|.r 1<|.d<|T.rt func212 results212 (.bool false) ⟨(AG (by grind [Ac])),Z.xt⟩
 exact .d<|.cf<|.sk<|.ib 1<|.g<|.it ((k:Int)+1)<|.r 1<|.d<|ac (k+1) _ _ AA (Z.to 0 [] 2) ⟨AB,(by grind)⟩ (by (simp only []; omega))
theorem Ih (s1:List (List Row)) (s2:List (List Row)) (h1:RepS w F a1 n1 c1 s1) (h2:RepS w F a2 n2 c2 s2)  : Calls Tryz.prog 211 [.slice a1 n1 c1,.slice a2 n2 c2,.func (.func 212) #[] #[]].toArray w (Am fun rv w'=>rv=.bool ((s1==s2))∧Ext w w'):=by
 cases h1.len
 cases h2.len
 refine goT func211 ?_
 have Z:=((St.i0 F w).p h1).p h2
 have ak:=h1.max
 refine .s<|.g<|.r 1<|.d<|.s<|.s<|.g<|.r 4<|.ne (s1.length:Int) (s2.length:Int) (fun ae=>.d<|.ct<|.s<|.g<|.r 1<|.d<|T.rt func211 results211 (.bool false) ⟨(AG (by grind [Ac])),Z.xt⟩) fun ae=>.d<|.cf<|.sk<|.s<|.s<|.g<|.r 3<|.d<|.b 0<|T.Lp (0:Nat) (fun k=>([(1,.slice a2 s2.length c2),(2,.func (.func 212) #[] #[]),(15,.slice a1 s1.length c1),(16,vI (s1.length:Int)),(17,vI (k:Int))],[],[],s1.length - k,(k≤s1.length)∧(s1.drop k=s2.drop k↔s1=s2))) [] Z ⟨AD,AD⟩ ?_
 rintro k az w Z ⟨ao,aq⟩ ac
 refine .s<|.g<|.bp ((k:Int)< (s1.length:Int)) (fun af=>?_) (fun af=>.d<|.s<|.cf<|.x 0 rfl<|.s<|.g<|.r 1<|.d<|T.rt func211 results211 (.bool true) ⟨(AG (by grind [Ac])),Z.xt⟩)
 refine .d<|.s<|.ct<|.sk<|.s<|.b 1<|.s<|.g<|.r 1<|gx s1 k fun ag aa=>?_
 have ar:=drop_at aa
 refine RG.Ix 1 aa Z<|Z.el 1 aa fun aA aB Z=>RG.Lh 0 0 Z<|.r 2<|.d<|.s<|.g<|.r 2<|gx s2 k fun ah ab=>?_
 have ax:=drop_at ab
 refine RG.Ix 2 ab Z<|Z.el 2 ab fun aC aD Z=>RG.Lh 0 0 Z<|.r 1<|.d<|.s<|.g<|.r 3<|RG.C0 (ES ag ah (Z.a 3) (Z.a 1)) Z fun w Z=>?_
 cases ay:(ag==ah)
 ·exact .r 1<|.d<|.ct<|.s<|.g<|.r 1<|.d<|T.rt func211 results211 (.bool false) ⟨(AG (by grind [Ac])),Z.xt⟩
 exact .r 1<|.d<|.cf<|.sk<|.ib 1<|.g<|.it ((k:Int)+1)<|.r 1<|.d<|ac (k+1) _ _ AA (Z.to 0 [] 4) ⟨AB,(by grind)⟩ (by (simp only []; omega))
theorem JM (s1:List (List Tag)) (s2:List (List Tag)) (h1:RepS w F a1 n1 c1 s1) (h2:RepS w F a2 n2 c2 s2)  : Calls Tryz.prog 169 [.slice a1 n1 c1,.slice a2 n2 c2,.func (.func 170) #[] #[]].toArray w (Am fun rv w'=>rv=.bool ((s1==s2))∧Ext w w'):=by
 cases h1.len
 cases h2.len
 refine goT func169 ?_
 have Z:=((St.i0 F w).p h1).p h2
 have ak:=h1.max
 refine .s<|.g<|.r 1<|.d<|.s<|.s<|.g<|.r 4<|.ne (s1.length:Int) (s2.length:Int) (fun ae=>.d<|.ct<|.s<|.g<|.r 1<|.d<|T.rt func169 results169 (.bool false) ⟨(AG (by grind [Ac])),Z.xt⟩) fun ae=>.d<|.cf<|.sk<|.s<|.s<|.g<|.r 3<|.d<|.b 0<|T.Lp (0:Nat) (fun k=>([(1,.slice a2 s2.length c2),(2,.func (.func 170) #[] #[]),(15,.slice a1 s1.length c1),(16,vI (s1.length:Int)),(17,vI (k:Int))],[],[],s1.length - k,(k≤s1.length)∧(s1.drop k=s2.drop k↔s1=s2))) [] Z ⟨AD,AD⟩ ?_
 rintro k az w Z ⟨ao,aq⟩ ac
 refine .s<|.g<|.bp ((k:Int)< (s1.length:Int)) (fun af=>?_) (fun af=>.d<|.s<|.cf<|.x 0 rfl<|.s<|.g<|.r 1<|.d<|T.rt func169 results169 (.bool true) ⟨(AG (by grind [Ac])),Z.xt⟩)
 refine .d<|.s<|.ct<|.sk<|.s<|.b 1<|.s<|.g<|.r 1<|gx s1 k fun ag aa=>?_
 have ar:=drop_at aa
 refine RG.Ix 1 aa Z<|Z.el 1 aa fun aA aB Z=>RG.Lh 0 0 Z<|.r 2<|.d<|.s<|.g<|.r 2<|gx s2 k fun ah ab=>?_
 have ax:=drop_at ab
 refine RG.Ix 2 ab Z<|Z.el 2 ab fun aC aD Z=>RG.Lh 0 0 Z<|.r 1<|.d<|.s<|.g<|.r 3<|RG.C0 (Ch ag ah (Z.a 3) (Z.a 1)) Z fun w Z=>?_
 cases ay:(ag==ah)
 ·exact .r 1<|.d<|.ct<|.s<|.g<|.r 1<|.d<|T.rt func169 results169 (.bool false) ⟨(AG (by grind [Ac])),Z.xt⟩
 exact .r 1<|.d<|.cf<|.sk<|.ib 1<|.g<|.it ((k:Int)+1)<|.r 1<|.d<|ac (k+1) _ _ AA (Z.to 0 [] 4) ⟨AB,(by grind)⟩ (by (simp only []; omega))
theorem Kz (a:Prt) (b:Prt) (h1:RepS w F a1 n1 c1 a.ids) (h2:RepS w F a2 n2 c2 a.blocks) (h3:RepS w F a3 n3 c3 b.ids) (h4:RepS w F a4 n4 c4 b.blocks)  : Calls Tryz.prog 168 [.agg #[.slice a1 n1 c1,.slice a2 n2 c2],.agg #[.slice a3 n3 c3,.slice a4 n4 c4]].toArray w (Am fun rv w'=>rv=.bool ((a==b))∧Ext w w'):=by
 cases h1.len
 cases h2.len
 cases h3.len
 cases h4.len
 refine goT func168 ?_
 have Z:=((((St.i0 F w).p h1).p h2).p h3).p h4
 have aa:=h1.max
 have ab:=h2.max
 have ac:=h3.max
 have ae:=h4.max
 refine .s<|.g<|RG.Np Z fun ag w Z=>RG.Np Z fun ah w Z=>.r 1<|.d<|.s<|.g<|.r 1<|RG.Lb 1 Z<|.r 1<|RG.Lb 0 Z<|RG.C0 (EG a.ids b.ids (Z.a 3) (Z.a 1)) Z fun w Z=>?_
 cases af:(a.ids==b.ids)
 ·exact .r 8<|.d<|T.rt func168 results168 (.bool false) ⟨(AG (by cases a; cases b; grind)),Z.xt⟩
 exact .r 2<|RG.Lb 1 Z<|.r 1<|RG.Lb 0 Z<|RG.C0 (Ih a.blocks b.blocks (Z.a 2) (Z.a 0)) Z fun w Z=>.r 2<|.d<|T.rt func168 results168 (.bool (a.blocks==b.blocks)) ⟨(AG (by cases a; cases b; grind)),Z.xt⟩
theorem JN (s1:List Prt) (s2:List Prt) (h1:RepS w F a1 n1 c1 s1) (h2:RepS w F a2 n2 c2 s2)  : Calls Tryz.prog 166 [.slice a1 n1 c1,.slice a2 n2 c2,.func (.func 168) #[] #[]].toArray w (Am fun rv w'=>rv=.bool ((s1==s2))∧Ext w w'):=by
 cases h1.len
 cases h2.len
 refine goT func166 ?_
 have Z:=((St.i0 F w).p h1).p h2
 have ak:=h1.max
 refine .s<|.g<|.r 1<|.d<|.s<|.s<|.g<|.r 4<|.ne (s1.length:Int) (s2.length:Int) (fun ae=>.d<|.ct<|.s<|.g<|.r 1<|.d<|T.rt func166 results166 (.bool false) ⟨(AG (by grind [Ac])),Z.xt⟩) fun ae=>.d<|.cf<|.sk<|.s<|.s<|.g<|.r 3<|.d<|.b 0<|T.Lp (0:Nat) (fun k=>([(1,.slice a2 s2.length c2),(2,.func (.func 168) #[] #[]),(15,.slice a1 s1.length c1),(16,vI (s1.length:Int)),(17,vI (k:Int))],[],[],s1.length - k,(k≤s1.length)∧(s1.drop k=s2.drop k↔s1=s2))) [] Z ⟨AD,AD⟩ ?_
 rintro k az w Z ⟨ao,aq⟩ ac
 refine .s<|.g<|.bp ((k:Int)< (s1.length:Int)) (fun af=>?_) (fun af=>.d<|.s<|.cf<|.x 0 rfl<|.s<|.g<|.r 1<|.d<|T.rt func166 results166 (.bool true) ⟨(AG (by grind [Ac])),Z.xt⟩)
 refine .d<|.s<|.ct<|.sk<|.s<|.b 1<|.s<|.g<|.r 1<|gx s1 k fun ag aa=>?_
 have ar:=drop_at aa
 refine RG.Ix 1 aa Z<|Z.el 1 aa fun aA aB aC aD Z=>RG.Lg 0 0 Z<|RG.Np Z fun aE w Z=>.r 1<|RG.Ss 0 Z fun w Z=>.d<|.s<|.g<|.r 2<|gx s2 k fun ah ab=>?_
 have ax:=drop_at ab
 refine RG.Ix 3 ab Z<|Z.el 3 ab fun aF aG aH aI Z=>RG.Lg 0 0 Z<|RG.Np Z fun aJ w Z=>RG.Ss 0 Z fun w Z=>.d<|.s<|.g<|.r 1<|RG.Ln 1 Z<|RG.Ln 0 Z<|RG.C0 (Kz ag ah (Z.a 4) (Z.a 5) (Z.a 1) (Z.a 2)) Z fun w Z=>?_
 cases ay:(ag==ah)
 ·exact .r 1<|.d<|.ct<|.s<|.g<|.r 1<|.d<|T.rt func166 results166 (.bool false) ⟨(AG (by grind [Ac])),Z.xt⟩
 exact .r 1<|.d<|.cf<|.sk<|.ib 1<|.g<|.it ((k:Int)+1)<|.r 1<|.d<|ac (k+1) _ _ AA (Z.to 2 [] 6) ⟨AB,(by grind)⟩ (by (simp only []; omega))
theorem GR (d:Dsk) (h1:RepS w F a1 n1 c1 d.files) (h2:RepS w F a2 n2 c2 d.list) (h3:RepS w F a3 n3 c3 d.names)  : Calls Tryz.prog 120 [.agg #[.slice a1 n1 c1,.slice a2 n2 c2,.slice a3 n3 c3,.int .i64 d.next]].toArray w (Am fun rv w'=>rv=.bool (FA d)∧Ext w w'):=by
 cases h1.len
 cases h2.len
 cases h3.len
 refine goT func120 ?_
 have Z:=(((St.i0 F w).p h1).p h2).p h3
 exact .s<|.g<|RG.Np Z fun af w Z=>.r 1<|.d<|.s<|.g<|.r 1<|RG.Lb 0 Z<|.eq d.next 999 (fun aa=>.r 7<|.d<|T.rt func120 results120 (.bool true) ⟨(AG (by exact UU ‹_›)),Z.xt⟩) fun aa=>.r 2<|RG.Lb 0 Z<|.r 4<|.d<|T.rt func120 results120 (.bool ((d.files.length:Int)==20)) ⟨(AG (by exact WZ ‹_›)),Z.xt⟩
theorem MC (s:Sto) (d:Dsk) (h1:RepS w F a1 n1 c1 s.idx.names) (h2:RepS w F a2 n2 c2 s.idx.AY) (h3:RepS w F a3 n3 c3 s.parts) (h4:RepS w F a4 n4 c4 s.mem) (h5:RepS w F a5 n5 c5 d.files) (h6:RepS w F a6 n6 c6 d.list) (h7:RepS w F a7 n7 c7 d.names) (p0:SG s) (p1:DD d):Calls Tryz.prog 119 [.agg #[.slice a1 n1 c1,.slice a2 n2 c2,.slice a3 n3 c3,.slice a4 n4 c4],.agg #[.slice a5 n5 c5,.slice a6 n6 c6,.slice a7 n7 c7,.int .i64 d.next]].toArray w (Am fun rv w'=>rv=.bool (Cr d s)∧Ext w w'):=by
 cases h1.len
 cases h2.len
 cases h3.len
 cases h4.len
 cases h5.len
 cases h6.len
 cases h7.len
 refine goT func119 ?_
 have Z:=(((((((St.i0 F w).p h1).p h2).p h3).p h4).p h5).p h6).p h7
 have am:=h7.max
 refine .s<|.g<|RG.Np Z fun ay w Z=>RG.Np Z fun az w Z=>.r 1<|.d<|.s<|.s<|T.Gd 14 Z fun w Z=>GA.Ln 0 1 Z<|GA.C0 1 Z (fun w Z=>E4 s (Z.a 6) (Z.a 5) (Z.a 4) (Z.a 3) p0) ?_
 cases ao:(nmB s.idx.names&&Aa s)
 ·exact .r [2,3,4,5,6,7,8]<|GA.Sk Z fun w Z=>.r 3<|.d<|.ct<|.s<|.g<|.r 1<|.d<|T.rt func119 results119 (.bool false) ⟨(AG (by exact YC ‹_›)),Z.xt⟩
 refine .r [2,3]<|GA.Ln 4 0 Z<|GA.C0 5 Z (fun w Z=>DC d (Z.a 2) (Z.a 1) (Z.a 0) p1) ?_
 cases aq:(BC d)
 ·exact .r [6,7,8]<|GA.Sk Z fun w Z=>.r 3<|.d<|.ct<|.s<|.g<|.r 1<|.d<|T.rt func119 results119 (.bool false) ⟨(AG (by exact YB ‹_›)),Z.xt⟩
 refine .r [6,7,8,9]<|GA.Lb 10 1 Z<|GA.Ln 11 0 Z<|.go 12<|GE.Cg (fun w Z=>El d (Z.a 2) (Z.a 1) (Z.a 0) p1 (E0 (C9 ‹_›).2.2.2)) Z ?_
 rintro w aA w Z ⟨⟨ab,ae,ar⟩,aa⟩
 refine ⟨Ext.chg aa,?_⟩
 refine GA.vS Z ae aa ?_
 intro aB aC aD aE aF aG aH aI Z
 refine .r [13]<|GA.Dn Z fun w Z=>RG.C0 (JN s.parts ab.parts (Z.a 8) (Z.a 2)) Z fun w Z=>?_
 cases ax:(s.parts==ab.parts)
 ·exact .r 2<|.d<|.ct<|.s<|.g<|.r 1<|.d<|T.rt func119 results119 (.bool false) ⟨(AG (by exact YE ‹_› ‹_›)),Z.xt⟩
 exact .r 2<|.d<|.cf<|.sk<|.s<|.g<|.r 1<|RG.Lb 0 Z<|.r 2<|.d<|.s<|T.Gd 14 Z fun w Z=>.r [0,1,2]<|GA.Lb 3 1 Z<|.r [4]<|GA.HB (i:=5) ((d.names.length:Int)≤(s.idx.names.length:Int)) AA (fun ac=>.r [6,7]<|GA.Lb 8 0 Z<|.r [9,10]<|GA.Lb 11 1 Z<|.r [12]<|GA.Sb (hhi:=bdS AA) 13 10 0 d.names.length s.idx.names Z fun aJ aK Z=>GA.Dn Z fun w Z=>RG.C0 (JM d.names ((s.idx.names.take d.names.length).drop 0) (Z.a 5) (Z.a 0)) Z fun w Z=>.r 2<|.d<|T.rt func119 results119 (.bool (d.names==((s.idx.names.take d.names.length).drop 0))) ⟨(AG (by exact YH ‹_› ‹_› ‹_› ‹_› AD)),Z.xt⟩) fun ac=>.r [6]<|GA.Sk Z fun w Z=>.r 3<|.d<|T.rt func119 results119 (.bool false) ⟨(AG (by exact YG ‹_›)),Z.xt⟩
theorem JO (d:Dsk) (s:Sto) (h1:RepS w F a1 n1 c1 d.files) (h2:RepS w F a2 n2 c2 d.list) (h3:RepS w F a3 n3 c3 d.names) (h4:RepS w F a4 n4 c4 s.idx.names) (h5:RepS w F a5 n5 c5 s.idx.AY) (h6:RepS w F a6 n6 c6 s.parts) (h7:RepS w F a7 n7 c7 s.mem) (p0:DD d) (p1:SG s):Calls Tryz.prog 69 [.agg #[.slice a1 n1 c1,.slice a2 n2 c2,.slice a3 n3 c3,.int .i64 d.next],.agg #[.slice a4 n4 c4,.slice a5 n5 c5,.slice a6 n6 c6,.slice a7 n7 c7]].toArray w (Am fun rv w'=>VL (ge w.heap.size) w' (Af d s:List Stp) rv∧Ext w w'):=by
 cases h1.len
 cases h2.len
 cases h3.len
 cases h4.len
 cases h5.len
 cases h6.len
 cases h7.len
 refine goT func69 ?_
 have Z:=(((((((St.i0 F w).p h1).p h2).p h3).p h4).p h5).p h6).p h7
 have ag:=h2.max
 have ai:=h4.max
 have am:=h7.max
 refine .s<|.g<|RG.Np Z fun ac w Z=>RG.Np Z fun ae w Z=>.r 1<|.d<|.s<|.s<|.g<|RG.Ln 0 Z<|RG.Ln 1 Z<|RG.C0 (MC s d (Z.a 3) (Z.a 2) (Z.a 1) (Z.a 0) (Z.a 6) (Z.a 5) (Z.a 4) p1 p0) Z fun w Z=>?_
 cases ao:(Cr d s)
 ·exact .r 17<|.d<|.ct<|.s<|.g<|RG.N0 Stp 0 Z fun bh w Z=>.r 1<|.d<|T.Rt func69 results69 ⟨Z.rM 0 ([]:List Stp) (by exact ZO ‹_›),Z.xt⟩
 refine .r 3<|RG.Lb 0 Z<|.r 1<|.eq (s.mem.length:Int) 0 (fun aa=>.r 11<|.d<|.ct<|.s<|.g<|RG.N0 Stp 0 Z fun bi w Z=>.r 1<|.d<|T.Rt func69 results69 ⟨Z.rM 0 ([]:List Stp) (by exact YI (.inl ‹_›)),Z.xt⟩) fun aa=>.r 3<|RG.Lb 1 Z<|.r 1<|.eq (d.list.length:Int) 6 (fun ab=>.r 5<|.d<|.ct<|.s<|.g<|RG.N0 Stp 0 Z fun bj w Z=>.r 1<|.d<|T.Rt func69 results69 ⟨Z.rM 0 ([]:List Stp) (by exact YI (.inr (.inl ‹_›))),Z.xt⟩) fun ab=>.r 2<|RG.Ln 1 Z<|RG.C0 (GR d (Z.a 6) (Z.a 5) (Z.a 4)) Z fun w Z=>?_
 cases aq:(FA d)
 ·refine .r 1<|.d<|.cf<|.sk<|.s<|T.GS 18 [ae,ac] Z fun _ w Z=>.r [0]<|GA.Lb (q:=1) 1 1 Z<|GA.Ln 2 0 Z<|.r [6]<|GA.Lb (q:=1) 7 1 Z<|.r [9]<|GA.Lb (q:=1) 10 1 Z<|.r [13,14]<|GA.Lb 15 0 Z<|GE.many [3,5,11] AA (all_cons ?_ (all_cons ?_ (all_cons ?_ all_nil)))
  ·refine GE.CS (fun w Z=>Bw s (Z.a 3) (Z.a 2) (Z.a 1) (Z.a 0) (StoK.of (DE p1 ‹_›) (DM ‹_›).sk).row (StoK.of (DE p1 ‹_›) (DM ‹_›).sk).J4.Jk (by have:=p1.nm2; omega)) Z fun bk bm bn bo w Z=>.r [4]<|.tw 5 11 ?_ ?_
   ·refine GE.N0 Int 0 Z fun bq w Z=>.tw 8 11 ?_ ?_
    ·exact GE.An (hs:=by (simp only [List.nil_append,List.length_nil,List.length_append,List.length_cons] <;> exact (by have:=p0.nl; omega))) (hf:=.inr Az) 0 7 ([]:List Int) d.list [1,2] Z fun br bu w Z=>.go 11<|GE.Nb 1 Z fun bv w Z=>.go 12<|GE.Ap (hs:=by (simp only [List.nil_append,List.length_nil,List.length_append,List.length_cons] <;> exact (by have:=p0.nl; omega))) 0 0 ([]++d.list) d.next [] [1,2] Z fun bw bz w Z=>.go 16<|GE.CO 0 (fun w Z=>Ae s.idx.names (Z.a 5) (by have:=p1.ix.g.len; omega) (by (intro n hn; have:=(p1.ix.g.sz n hn).1; omega))) Z fun bA bB w Z=>.r [17]<|GA.Do Z fun w Z=>RG.Nl 0 ([(⟨1,d.next,(⟨(Ai s.mem).ids,(Ai s.mem).blocks⟩:Prt),([]:List Int),([]:List (List Tag))⟩:Stp),(⟨2,0,(⟨([]:List Int),([]:List (List Row))⟩:Prt),(([]++d.list)++[d.next]),s.idx.names⟩:Stp)]:List Stp) [[6,7,5,4],[1,0,3,2]] ((((((Z.nl Int).nl (List Tag)).sl 1).sl 0).nl Int).nl (List Row)) fun bC w Z=>.r 1<|.d<|T.Rt func69 results69 ⟨Z.rM 0 ([(⟨1,d.next,(⟨(Ai s.mem).ids,(Ai s.mem).blocks⟩:Prt),([]:List Int),([]:List (List Tag))⟩:Stp),(⟨2,0,(⟨([]:List Int),([]:List (List Row))⟩:Prt),(([]++d.list)++[d.next]),s.idx.names⟩:Stp)]:List Stp) (by exact PU ‹_› ‹_› ‹_› ‹_› p0),Z.xt⟩
    exact GE.Nb 1 Z fun bD w Z=>.go 8<|GE.An (hs:=by (simp only [List.nil_append,List.length_nil,List.length_append,List.length_cons] <;> exact (by have:=p0.nl; omega))) (hf:=.inr Az) 1 7 ([]:List Int) d.list [2,3] Z fun bE bF w Z=>.go 12<|GE.Ap (hs:=by (simp only [List.nil_append,List.length_nil,List.length_append,List.length_cons] <;> exact (by have:=p0.nl; omega))) 0 0 ([]++d.list) d.next [] [1,2] Z fun bG bH w Z=>.go 16<|GE.CO 0 (fun w Z=>Ae s.idx.names (Z.a 5) (by have:=p1.ix.g.len; omega) (by (intro n hn; have:=(p1.ix.g.sz n hn).1; omega))) Z fun bI bJ w Z=>.r [17]<|GA.Do Z fun w Z=>RG.Nl 0 ([(⟨1,d.next,(⟨(Ai s.mem).ids,(Ai s.mem).blocks⟩:Prt),([]:List Int),([]:List (List Tag))⟩:Stp),(⟨2,0,(⟨([]:List Int),([]:List (List Row))⟩:Prt),(([]++d.list)++[d.next]),s.idx.names⟩:Stp)]:List Stp) [[6,7,5,4],[1,0,3,2]] ((((((Z.nl Int).nl (List Tag)).sl 1).sl 0).nl Int).nl (List Row)) fun bK w Z=>.r 1<|.d<|T.Rt func69 results69 ⟨Z.rM 0 ([(⟨1,d.next,(⟨(Ai s.mem).ids,(Ai s.mem).blocks⟩:Prt),([]:List Int),([]:List (List Tag))⟩:Stp),(⟨2,0,(⟨([]:List Int),([]:List (List Row))⟩:Prt),(([]++d.list)++[d.next]),s.idx.names⟩:Stp)]:List Stp) (by exact PU ‹_› ‹_› ‹_› ‹_› p0),Z.xt⟩
   exact GE.Nb 1 Z fun bL w Z=>.go 5<|GE.N0 Int 0 Z fun bM w Z=>.go 8<|GE.An (hs:=by (simp only [List.nil_append,List.length_nil,List.length_append,List.length_cons] <;> exact (by have:=p0.nl; omega))) (hf:=.inr Az) 0 7 ([]:List Int) d.list [2,3] Z fun bN bO w Z=>.go 12<|GE.Ap (hs:=by (simp only [List.nil_append,List.length_nil,List.length_append,List.length_cons] <;> exact (by have:=p0.nl; omega))) 0 1 ([]++d.list) d.next [] [1,2] Z fun bP bQ w Z=>.go 16<|GE.CO 0 (fun w Z=>Ae s.idx.names (Z.a 5) (by have:=p1.ix.g.len; omega) (by (intro n hn; have:=(p1.ix.g.sz n hn).1; omega))) Z fun bR bS w Z=>.r [17]<|GA.Do Z fun w Z=>RG.Nl 0 ([(⟨1,d.next,(⟨(Ai s.mem).ids,(Ai s.mem).blocks⟩:Prt),([]:List Int),([]:List (List Tag))⟩:Stp),(⟨2,0,(⟨([]:List Int),([]:List (List Row))⟩:Prt),(([]++d.list)++[d.next]),s.idx.names⟩:Stp)]:List Stp) [[6,7,5,4],[1,0,3,2]] ((((((Z.nl Int).nl (List Tag)).sl 1).sl 0).nl Int).nl (List Row)) fun bT w Z=>.r 1<|.d<|T.Rt func69 results69 ⟨Z.rM 0 ([(⟨1,d.next,(⟨(Ai s.mem).ids,(Ai s.mem).blocks⟩:Prt),([]:List Int),([]:List (List Tag))⟩:Stp),(⟨2,0,(⟨([]:List Int),([]:List (List Row))⟩:Prt),(([]++d.list)++[d.next]),s.idx.names⟩:Stp)]:List Stp) (by exact PU ‹_› ‹_› ‹_› ‹_› p0),Z.xt⟩
  ·refine GE.N0 Int 0 Z fun bU w Z=>.tw 3 11 ?_ ?_
   ·refine GE.CS (fun w Z=>Bw s (Z.a 3) (Z.a 2) (Z.a 1) (Z.a 0) (StoK.of (DE p1 ‹_›) (DM ‹_›).sk).row (StoK.of (DE p1 ‹_›) (DM ‹_›).sk).J4.Jk (by have:=p1.nm2; omega)) Z fun bV bW bX bY w Z=>.r [4]<|.tw 8 11 ?_ ?_
    ·exact GE.An (hs:=by (simp only [List.nil_append,List.length_nil,List.length_append,List.length_cons] <;> exact (by have:=p0.nl; omega))) (hf:=.inr Az) 0 7 ([]:List Int) d.list [1,2] Z fun bZ b0 w Z=>.go 11<|GE.Nb 1 Z fun b6 w Z=>.go 12<|GE.Ap (hs:=by (simp only [List.nil_append,List.length_nil,List.length_append,List.length_cons] <;> exact (by have:=p0.nl; omega))) 0 0 ([]++d.list) d.next [] [1,2] Z fun b7 b8 w Z=>.go 16<|GE.CO 0 (fun w Z=>Ae s.idx.names (Z.a 5) (by have:=p1.ix.g.len; omega) (by (intro n hn; have:=(p1.ix.g.sz n hn).1; omega))) Z fun b9 cd w Z=>.r [17]<|GA.Do Z fun w Z=>RG.Nl 0 ([(⟨1,d.next,(⟨(Ai s.mem).ids,(Ai s.mem).blocks⟩:Prt),([]:List Int),([]:List (List Tag))⟩:Stp),(⟨2,0,(⟨([]:List Int),([]:List (List Row))⟩:Prt),(([]++d.list)++[d.next]),s.idx.names⟩:Stp)]:List Stp) [[6,7,5,4],[1,0,3,2]] ((((((Z.nl Int).nl (List Tag)).sl 1).sl 0).nl Int).nl (List Row)) fun ce w Z=>.r 1<|.d<|T.Rt func69 results69 ⟨Z.rM 0 ([(⟨1,d.next,(⟨(Ai s.mem).ids,(Ai s.mem).blocks⟩:Prt),([]:List Int),([]:List (List Tag))⟩:Stp),(⟨2,0,(⟨([]:List Int),([]:List (List Row))⟩:Prt),(([]++d.list)++[d.next]),s.idx.names⟩:Stp)]:List Stp) (by exact PU ‹_› ‹_› ‹_› ‹_› p0),Z.xt⟩
    exact GE.Nb 1 Z fun cg w Z=>.go 8<|GE.An (hs:=by (simp only [List.nil_append,List.length_nil,List.length_append,List.length_cons] <;> exact (by have:=p0.nl; omega))) (hf:=.inr Az) 1 7 ([]:List Int) d.list [2,3] Z fun ci cj w Z=>.go 12<|GE.Ap (hs:=by (simp only [List.nil_append,List.length_nil,List.length_append,List.length_cons] <;> exact (by have:=p0.nl; omega))) 0 0 ([]++d.list) d.next [] [1,2] Z fun ck cm w Z=>.go 16<|GE.CO 0 (fun w Z=>Ae s.idx.names (Z.a 5) (by have:=p1.ix.g.len; omega) (by (intro n hn; have:=(p1.ix.g.sz n hn).1; omega))) Z fun co cp w Z=>.r [17]<|GA.Do Z fun w Z=>RG.Nl 0 ([(⟨1,d.next,(⟨(Ai s.mem).ids,(Ai s.mem).blocks⟩:Prt),([]:List Int),([]:List (List Tag))⟩:Stp),(⟨2,0,(⟨([]:List Int),([]:List (List Row))⟩:Prt),(([]++d.list)++[d.next]),s.idx.names⟩:Stp)]:List Stp) [[6,7,5,4],[1,0,3,2]] ((((((Z.nl Int).nl (List Tag)).sl 1).sl 0).nl Int).nl (List Row)) fun cq w Z=>.r 1<|.d<|T.Rt func69 results69 ⟨Z.rM 0 ([(⟨1,d.next,(⟨(Ai s.mem).ids,(Ai s.mem).blocks⟩:Prt),([]:List Int),([]:List (List Tag))⟩:Stp),(⟨2,0,(⟨([]:List Int),([]:List (List Row))⟩:Prt),(([]++d.list)++[d.next]),s.idx.names⟩:Stp)]:List Stp) (by exact PU ‹_› ‹_› ‹_› ‹_› p0),Z.xt⟩
   exact GE.Nb 1 Z fun cr w Z=>.go 3<|GE.CS (fun w Z=>Bw s (Z.a 3) (Z.a 2) (Z.a 1) (Z.a 0) (StoK.of (DE p1 ‹_›) (DM ‹_›).sk).row (StoK.of (DE p1 ‹_›) (DM ‹_›).sk).J4.Jk (by have:=p1.nm2; omega)) Z fun cu cw cx cy w Z=>.r [4]<|.go 8<|GE.An (hs:=by (simp only [List.nil_append,List.length_nil,List.length_append,List.length_cons] <;> exact (by have:=p0.nl; omega))) (hf:=.inr Az) 1 7 ([]:List Int) d.list [2,3] Z fun ar ax w Z=>.go 12<|GE.Ap (hs:=by (simp only [List.nil_append,List.length_nil,List.length_append,List.length_cons] <;> exact (by have:=p0.nl; omega))) 0 0 ([]++d.list) d.next [] [1,2] Z fun ay az w Z=>.go 16<|GE.CO 0 (fun w Z=>Ae s.idx.names (Z.a 5) (by have:=p1.ix.g.len; omega) (by (intro n hn; have:=(p1.ix.g.sz n hn).1; omega))) Z fun aA aB w Z=>.r [17]<|GA.Do Z fun w Z=>RG.Nl 0 ([(⟨1,d.next,(⟨(Ai s.mem).ids,(Ai s.mem).blocks⟩:Prt),([]:List Int),([]:List (List Tag))⟩:Stp),(⟨2,0,(⟨([]:List Int),([]:List (List Row))⟩:Prt),(([]++d.list)++[d.next]),s.idx.names⟩:Stp)]:List Stp) [[6,7,5,4],[1,0,3,2]] ((((((Z.nl Int).nl (List Tag)).sl 1).sl 0).nl Int).nl (List Row)) fun aC w Z=>.r 1<|.d<|T.Rt func69 results69 ⟨Z.rM 0 ([(⟨1,d.next,(⟨(Ai s.mem).ids,(Ai s.mem).blocks⟩:Prt),([]:List Int),([]:List (List Tag))⟩:Stp),(⟨2,0,(⟨([]:List Int),([]:List (List Row))⟩:Prt),(([]++d.list)++[d.next]),s.idx.names⟩:Stp)]:List Stp) (by exact PU ‹_› ‹_› ‹_› ‹_› p0),Z.xt⟩
  refine GE.Nb 1 Z fun aD w Z=>.tw 3 5 ?_ ?_
  ·exact GE.CS (fun w Z=>Bw s (Z.a 3) (Z.a 2) (Z.a 1) (Z.a 0) (StoK.of (DE p1 ‹_›) (DM ‹_›).sk).row (StoK.of (DE p1 ‹_›) (DM ‹_›).sk).J4.Jk (by have:=p1.nm2; omega)) Z fun aE aF aG aH w Z=>.r [4]<|.go 5<|GE.N0 Int 0 Z fun aI w Z=>.go 8<|GE.An (hs:=by (simp only [List.nil_append,List.length_nil,List.length_append,List.length_cons] <;> exact (by have:=p0.nl; omega))) (hf:=.inr Az) 0 7 ([]:List Int) d.list [2,3] Z fun aJ aK w Z=>.go 12<|GE.Ap (hs:=by (simp only [List.nil_append,List.length_nil,List.length_append,List.length_cons] <;> exact (by have:=p0.nl; omega))) 0 1 ([]++d.list) d.next [] [1,2] Z fun aL aM w Z=>.go 16<|GE.CO 0 (fun w Z=>Ae s.idx.names (Z.a 5) (by have:=p1.ix.g.len; omega) (by (intro n hn; have:=(p1.ix.g.sz n hn).1; omega))) Z fun aN aO w Z=>.r [17]<|GA.Do Z fun w Z=>RG.Nl 0 ([(⟨1,d.next,(⟨(Ai s.mem).ids,(Ai s.mem).blocks⟩:Prt),([]:List Int),([]:List (List Tag))⟩:Stp),(⟨2,0,(⟨([]:List Int),([]:List (List Row))⟩:Prt),(([]++d.list)++[d.next]),s.idx.names⟩:Stp)]:List Stp) [[6,7,5,4],[1,0,3,2]] ((((((Z.nl Int).nl (List Tag)).sl 1).sl 0).nl Int).nl (List Row)) fun aP w Z=>.r 1<|.d<|T.Rt func69 results69 ⟨Z.rM 0 ([(⟨1,d.next,(⟨(Ai s.mem).ids,(Ai s.mem).blocks⟩:Prt),([]:List Int),([]:List (List Tag))⟩:Stp),(⟨2,0,(⟨([]:List Int),([]:List (List Row))⟩:Prt),(([]++d.list)++[d.next]),s.idx.names⟩:Stp)]:List Stp) (by exact PU ‹_› ‹_› ‹_› ‹_› p0),Z.xt⟩
  exact GE.N0 Int 0 Z fun aQ w Z=>.go 3<|GE.CS (fun w Z=>Bw s (Z.a 3) (Z.a 2) (Z.a 1) (Z.a 0) (StoK.of (DE p1 ‹_›) (DM ‹_›).sk).row (StoK.of (DE p1 ‹_›) (DM ‹_›).sk).J4.Jk (by have:=p1.nm2; omega)) Z fun aR aS aT aU w Z=>.r [4]<|.go 8<|GE.An (hs:=by (simp only [List.nil_append,List.length_nil,List.length_append,List.length_cons] <;> exact (by have:=p0.nl; omega))) (hf:=.inr Az) 0 7 ([]:List Int) d.list [2,3] Z fun aV aW w Z=>.go 12<|GE.Ap (hs:=by (simp only [List.nil_append,List.length_nil,List.length_append,List.length_cons] <;> exact (by have:=p0.nl; omega))) 0 1 ([]++d.list) d.next [] [1,2] Z fun aX aY w Z=>.go 16<|GE.CO 0 (fun w Z=>Ae s.idx.names (Z.a 5) (by have:=p1.ix.g.len; omega) (by (intro n hn; have:=(p1.ix.g.sz n hn).1; omega))) Z fun aZ ba w Z=>.r [17]<|GA.Do Z fun w Z=>RG.Nl 0 ([(⟨1,d.next,(⟨(Ai s.mem).ids,(Ai s.mem).blocks⟩:Prt),([]:List Int),([]:List (List Tag))⟩:Stp),(⟨2,0,(⟨([]:List Int),([]:List (List Row))⟩:Prt),(([]++d.list)++[d.next]),s.idx.names⟩:Stp)]:List Stp) [[6,7,5,4],[1,0,3,2]] ((((((Z.nl Int).nl (List Tag)).sl 1).sl 0).nl Int).nl (List Row)) fun bd w Z=>.r 1<|.d<|T.Rt func69 results69 ⟨Z.rM 0 ([(⟨1,d.next,(⟨(Ai s.mem).ids,(Ai s.mem).blocks⟩:Prt),([]:List Int),([]:List (List Tag))⟩:Stp),(⟨2,0,(⟨([]:List Int),([]:List (List Row))⟩:Prt),(([]++d.list)++[d.next]),s.idx.names⟩:Stp)]:List Stp) (by exact PU ‹_› ‹_› ‹_› ‹_› p0),Z.xt⟩
 exact .r 1<|.d<|.ct<|.s<|.g<|RG.N0 Stp 0 Z fun bg w Z=>.r 1<|.d<|T.Rt func69 results69 ⟨Z.rM 0 ([]:List Stp) (by exact YI (.inr (.inr ‹_›))),Z.xt⟩
end Go.Proofs.YtfninflnngpchaaGreatDoor
namespace Go.Proofs.YtfninflnngpchaaGreatDoor
section
variable {α:Type} [Rep α] {w:World} {G F:Nat→Prop} {M ML M2:List Nat} {o:Option Addr} {n c r s b x:Nat} {t:TypeId} {xs:List α}
theorem RepS.JP (h:RepS w (nin F M) o n c xs):RepS w (nin (fo F s) M) o n c xs:=h.CQ fun _ _ hF=>⟨.inl hF.1,hF.2⟩
theorem RepS.toM (h:RepS w (nin G M) o n c xs) (hs:∀ b∈ML,b∈M):RepS w (nin (nin G M) ML) o n c xs:=h.CQ fun k _ hk=>⟨hk,fun e=>hk.2 (hs k e)⟩
theorem Own.toM (h:Own w r t (nin G M) n c xs) (hs:∀ b∈ML,b∈M):Own w r t (nin (nin G M) ML) n c xs:=h.CQ fun k _ hk=>⟨hk,fun e=>hk.2 (hs k e)⟩
theorem Cov.mkI {L:List Nat}(h:b∈L):Cov (ins L) w b:=⟨.inl h⟩
theorem KD (h:Cov (ins [b,r]) w x) (hn:Nb x b):OrB x r w.heap.size:=by
 rcases h.or with h | h
 ·have h2:x∈[b,r]:=h
  rcases List.mem_cons.1 h2 with rfl | h2
  ·exact absurd rfl hn.ne
  ·simp at h2
   exact .inl h2
 ·exact .inr h
theorem UW {k:Nat}(h:nin (fo (nin G M) s) ML k) (hM:∀ b∈M,b< s) (hG:∀ b,s≤b→G b) (h2:∀ b∈M2,b∈ML∨b∈M):nin G M2 k:=by
 refine ⟨?_,fun hm=>?_⟩
 ·rcases h.1 with h1 | h1
  ·exact h1.1
  ·exact hG _ h1
 ·rcases h2 k hm with h3 | h3
  ·exact h.2 h3
  ·rcases h.1 with h1 | h1
   ·exact h1.2 h3
   ·have:=hM k h3; omega
theorem RepS.bxM (h:RepS w (nin (fo (nin G M) s) ML) o n c xs) (hM:∀ b∈M,b< s) (hG:∀ b,s≤b→G b) (h2:∀ b∈M2,b∈ML∨b∈M):RepS w (nin G M2) o n c xs:=h.CQ fun _ _ hk=>UW hk hM hG h2
theorem Own.bxM (h:Own w r t (nin (fo (nin G M) s) ML) n c xs) (hM:∀ b∈M,b< s) (hG:∀ b,s≤b→G b) (h2:∀ b∈M2,b∈ML∨b∈M):Own w r t (nin G M2) n c xs:=h.CQ fun _ _ hk=>UW hk hM hG h2
end
theorem Own.Z0 {w:World}{r:Nat}{t:TypeId}{F:Nat→Prop}{n c i:Nat}{xs:List Fil}{cs:List Value}(h:Own w r t F n c xs) (hB:Box w r t cs):∀ v,i+(n - i)≤n→v∈(cs.drop (i * 3)).take ((n - i) * 3)→Go.Proofs.YtfninflnngpchaaGreatDoor.Dc v=true:=by
 intro v hin hv
 obtain ⟨k,hk⟩:=List.mem_iff_getElem?.1 hv
 rw [List.getElem?_take] at hk
 split at hk
 ·rename_i hlt
  rw [List.getElem?_drop] at hk
  have hn:=h.len
  have hj:i+k / 3< xs.length:=by omega
  obtain ⟨c1,g1,g2⟩:=h.elem (i+k / 3) xs[i+k / 3] (AU hj)
  have hl:c1.length=3:=Rep.len g1
  have hk2:k % 3< c1.length:=by omega
  have h3:=g2 (k % 3) c1[k % 3] (AU hk2)
  have hz:Rep.sz Fil=3:=rfl
  unfold Box at hB
  rw [add_lit,hz] at h3
  simp only [World.cell?,hB] at h3
  have e:(i+k / 3) * 3+k % 3=i * 3+k:=by omega
  rw [e] at h3
  have h4:cs[i * 3+k]? = some c1[k % 3]:=by simpa using h3
  rw [hk] at h4
  cases h4
  exact Rep.flat g1 _ (List.getElem_mem hk2)
 ·cases hk
theorem UX {P:Program}{T ty t:TypeId}{sz:Nat}{w:World}{r o c m:Nat}{cs:List Value}(hT:WR P T t sz=true) (hB:Box w r t cs) (hm:0< m) (hfit:o+m * sz≤cs.length) :
 ∃ vs w',(Builtin.clear_ #[T] ty #[.slice (some ⟨r,o,none⟩) m c]).run P w=.ok (.tuple #[]) w'∧vs.length=m * sz∧Box w' r t (BE cs o vs)∧Chg (one r) w w':=by
 unfold WR at hT
 simp only [AW] at hT
 obtain ⟨h1,h2⟩:=hT
 split at h1
 ·rename_i e he
  have:=Nat.eq_of_beq_eq_true h1
  subst this
  split at h2
  ·rename_i inf hinf
   split at h2
   ·rename_i z hz
    simp only [AW,List.all_eq_true] at h2
    have hsz:=Nat.eq_of_beq_eq_true h2.1
    have hl:(Builtin.zeroCells z.cells m).toList.length=m * sz:=by rw [Array.length_toList,size_zeroCells,hsz]
    have ho:∀ v∈(Builtin.zeroCells z.cells m).toList,Dc v=true:=fun v hv=>by
     unfold Builtin.zeroCells at hv
     simp only [Array.toList_map,List.mem_map,Array.toList_range,List.mem_range] at hv
     obtain ⟨k,hk,rfl⟩:=hv
     have hk2:k % z.cells.size< z.cells.size:=Nat.mod_lt _ (Nat.pos_of_ne_zero (fun e=>by rw [e,Nat.mul_zero] at hk; omega))
     refine h2.2 _ ?_
     rw [getElem!_pos z.cells _ hk2]
     exact Array.getElem_mem_toList hk2
    obtain ⟨w',g1,g2,g3,_⟩:=hB.Ns (P:=P) (Builtin.zeroCells z.cells m).toList (o:=o) (i:=0) AB ho
    refine ⟨_,w',?_,hl,g2,g3⟩
    have hv:(zeroValue e).run P w=.ok z w:=by simp [zeroValue,typeInfo,hinf,hz,go_sem]
    unfold Builtin.clear_
    simp only [List.getElem?_toArray,List.getElem?_cons_zero]
    rw [AX (run_underlying he w)]
    obtain ⟨m',rfl⟩:∃ k,m=k+1:=⟨m - 1,by omega⟩
    simp only []
    rw [AX hv,AX g1]
    rfl
   ·cases h2
  ·cases h2
 ·cases h1
theorem Own.YJ {α:Type}[Rep α] {w w':World}{r:Nat}{t:TypeId}{F:Nat→Prop}{n c i:Nat}{xs:List α}{cs cs':List Value}(h:Own w r t F n c xs) (hx:Chg (one r) w w') (hB:Box w r t cs) (hB':Box w' r t cs') (hl:cs'.length=c * Rep.sz α) (hi:i≤n)
 (hp:∀ p,p< i * Rep.sz α→cs'[p]? = cs[p]?):Own w' r t F i c (xs.take i):=by
 have hn:=h.len
 have hle:=h.le
 have hcap:=h.cap
 unfold Box at hB hB'
 refine ⟨by rw [List.length_take]; omega,by omega,hcap,⟨cs'.toArray,hB',by simpa using hl⟩,fun k x hk=>?_⟩
 have hfr:∀ b,b< w.heap.size→F b∧b≠r→(F b∧b≠r)∧w'.heap[b]? = w.heap[b]? := fun b hb hF=>⟨hF,hx.block b hb (fun e=>hF.2 e)⟩
 rw [List.getElem?_take] at hk
 split at hk
 ·rename_i hki
  obtain ⟨c1,g1,g2⟩:=h.elem k x hk
  refine ⟨c1,Rep.frame g1 hfr,fun u v hv=>?_⟩
  have h3:=g2 u v hv
  have hu:u< Rep.sz α:=by have:=(List.getElem?_eq_some_iff.1 hv).1; rw [Rep.len g1] at this; exact this
  have hm:k * Rep.sz α+Rep.sz α≤i * Rep.sz α:=by rw [← Nat.succ_mul]; exact Nat.mul_le_mul_right _ hki
  rw [add_lit] at h3 ⊢
  simp only [World.cell?,hB] at h3
  simp only [World.cell?,hB']
  have:=hp (k * Rep.sz α+u) AB
  simpa [this] using h3
 ·cases hk
theorem Sl {cs v:List Value}{i p:Nat}(hp:p< i) (hi:i≤cs.length):(BE cs i v)[p]? = cs[p]? := by
 unfold BE
 rw [List.append_assoc,List.getElem?_append_left (by rw [List.length_take]; omega),List.getElem?_take,if_pos hp]
end Go.Proofs.YtfninflnngpchaaGreatDoor
namespace Go.Proofs.YtfninflnngpchaaGreatDoor
def ZP:Dsk:=⟨[],[],[],0⟩
def Ak (d:Dsk) (st:List Stp) (c:Int):Dsk:=if BC d=true∧0≤c∧BC (toD d st c)=true then toD d st c else ZP
def CM (d:Dsk):Dsk:=if BC d then BN d else ZP
def Ag (d:Dsk) (a:Int):List Stp:=if BC d then Al d a else []
theorem ET {d:Dsk}{a:Int}(h:BC d=true):Ag d a=Al d a:=by unfold Ag; rw [if_pos h]
theorem PV {d:Dsk}{a:Int}(h:BC d=false):Ag d a=[]:=by unfold Ag; rw [if_neg (by simp [h])]
structure StW (d:Dsk) (st:List Stp):Prop where
 len:st.length≤4
 sz:∀ x∈st,KV x
 pt:∀ x∈st,Cw x.part
 ok:∀ k:Nat,DD ((st.take k).foldl doD d)
theorem DD.step1 {d:Dsk}(h:DD d){x:Stp}(hk:x.kind=1) (hf:d.files.length< 20) (hn:0≤x.num∧x.num≤998) (hp:PrtI x.part):DD (doD d x):=by
 rw [FP hk]
 refine ⟨h.g,h.nl,by simp; omega,fun f hf=>?_,by show 0≤x.num+1∧x.num+1≤999; omega⟩
 rcases List.mem_append.1 hf with hf | hf
 ·exact h.file f hf
 ·simp at hf; subst hf; exact hp
theorem DD.step2 {d:Dsk}(h:DD d){x:Stp}(hk:x.kind=2) (hl:x.list.length≤7) (hn:NmG x.names):DD (doD d x):=by
 rw [HN hk]
 exact ⟨hn,hl,h.nf,h.file,h.next⟩
theorem HX {d:Dsk}{n:Int}:∀ f∈D8 d n,f∈d.files:=fun f hf=>by
 unfold D8 at hf
 split at hf
 ·rcases List.mem_append.1 hf with hf | hf
  ·exact List.mem_of_mem_take hf
  ·exact List.mem_of_mem_drop hf
 ·exact hf
theorem MD {d:Dsk}{n:Int}:(D8 d n).length≤d.files.length:=by
 unfold D8
 split
 ·rw [List.length_append,List.length_take,List.length_drop]; omega
 ·exact Nat.le_refl _
theorem DD.ZQ {d:Dsk}(h:DD d){x:Stp}(hk:x.kind=3):DD (doD d x):=by
 rw [Fm hk]
 exact ⟨h.g,h.nl,Nat.le_trans MD h.nf,fun f hf=>h.file f (HX f hf),h.next⟩
theorem UY {d:Dsk}{x:Stp}{xs:List Stp}(h0:DD d) (h:∀ k:Nat,DD ((xs.take k).foldl doD (doD d x))):∀ k:Nat,DD (((x::xs).take k).foldl doD d):=by
 intro k
 cases k with
 | zero=>exact h0
 | succ k=>exact h k
theorem UZ {d:Dsk}(h0:DD d):∀ k:Nat,DD ((([]:List Stp).take k).foldl doD d):=by intro k; simpa using h0
theorem StW.nil {d:Dsk}(h:DD d):StW d []:=⟨by simp,by simp,by simp,UZ h⟩
theorem JQ {x:Stp}(hl:x.list.length≤7) (hn:x.names.length≤7) (h5:∀ n∈x.names,n.length≤1000) (hx:-9000000≤x.num∧x.num≤9000000):KV x:=⟨by omega,by omega,h5,hx.1,hx.2⟩
theorem Ua {ns:List (List Tag)}(h:NmG ns):∀ n∈ns,n.length≤1000:=fun n hn=>(h.sz n hn).1
theorem NN:Cw ⟨[],[]⟩:=⟨rfl,by simp,by simp⟩
theorem JR {d:Dsk}(h:DD d){l:List Int}{ns:List (List Tag)}{xs:List Stp}(hl:l.length≤7) (hn:NmG ns) (hx:∀ x∈xs,x.kind=3∧KV x∧x.part=⟨[],[]⟩) (h3:xs.length≤2):StW d (⟨2,0,⟨[],[]⟩,l,ns⟩ :: xs):=by
 refine ⟨by simp; omega,fun x hm=>?_,fun x hm=>?_,UY h ?_⟩
 ·rcases List.mem_cons.1 hm with rfl | hm
  ·exact JQ hl hn.len (Ua hn) AD
  ·exact (hx x hm).2.1
 ·rcases List.mem_cons.1 hm with rfl | hm
  ·exact NN
  ·rw [(hx x hm).2.2]; exact NN
 ·have key:∀ (xs:List Stp) (d:Dsk),DD d→(∀ x∈xs,x.kind=3)→∀ k:Nat,DD ((xs.take k).foldl doD d):=by
   intro xs
   induction xs with
   | nil=>intro d h _; exact UZ h
   | cons x xs ih=>intro d h hk; exact UY h (ih _ (h.ZQ (hk x AD)) (fun y hy=>hk y (by simp [hy])))
  exact key xs _ (h.step2 rfl hl hn) (fun x hm=>(hx x hm).1)
theorem StW.XM {d:Dsk}(h:DD d){n:Int}{p:Prt}{xs:List Stp}(hf:d.files.length< 20) (hn:0≤n∧n≤998) (hp:PrtI p) (h3:xs.length≤3) (hx:StW (doD d ⟨1,n,p,[],[]⟩) xs):StW d (⟨1,n,p,[],[]⟩ :: xs):=by
 refine ⟨by simp; omega,fun x hm=>?_,fun x hm=>?_,UY h hx.ok⟩
 ·rcases List.mem_cons.1 hm with rfl | hm
  ·exact JQ AD AD AD (by show -9000000≤n∧n≤9000000; omega)
  ·exact hx.sz x hm
 ·rcases List.mem_cons.1 hm with rfl | hm
  ·exact hp.sz
  ·exact hx.pt x hm
theorem XN {s:Sto}(h:SD s):NmG s.idx.names:=NmG.of h.nm h.nd
theorem NO {s:Sto}(h:StoK s):PrtI (Ai s.mem):=PrtI.mem h.row
theorem KE {d:Dsk}{s:Sto}(h:DD d) (hs:SD s):StW d (Af d s)∧StW d (((Af d s).take (Af d s).length).drop 1):=by
 rw [List.take_length]
 unfold Af
 split
 ·rename_i hf
  have q:=DM hf
  have hk:=C9 q.dk
  by_cases hc:s.mem.length=0∨d.list.length≥6∨d.next≥999∨d.files.length≥20
  ·have e:BB d s=[]:=by unfold BB; rw [if_pos hc]
   rw [e]; exact ⟨StW.nil h,StW.nil h⟩
  ·have e:=DT (d:=d) (s:=s) AB AB AB AB
   rw [e]
   have hn:=h.next
   have h1:=JR (l:=d.list++[d.next]) (xs:=[]) h (by simp; omega) (XN hs) AD AD
   have h2:DD (doD d ⟨1,d.next,Ai s.mem,[],[]⟩):=h.step1 rfl AB (by show 0≤d.next∧d.next≤998; omega) (NO (StoK.of hs q.sk))
   exact ⟨StW.XM h AB AB (NO (StoK.of hs q.sk)) AD (JR h2 (by simp; omega) (XN hs) AD AD),h1⟩
 ·exact ⟨StW.nil h,StW.nil h⟩
theorem KF {d:Dsk}(h:DD d) (a:Int):StW d (Ag d a)∧StW d (((Ag d a).take (Ag d a).length).drop 1):=by
 rw [List.take_length]
 unfold Ag
 split
 ·rename_i hk0
  have hk:=C9 hk0
  have hdi:=h.di hk0
  unfold Al
  split
  ·exact ⟨StW.nil h,StW.nil h⟩
  ·rename_i h1
   simp only [Bool.or_eq_true,not_or,Bool.not_eq_true,Bool.not_eq_false',decide_eq_true_eq] at h1
   obtain ⟨⟨h1,h3⟩,h4⟩:=h1
   have h0:=BW (by simpa using h1)
   have hl:a.toNat+1< d.list.length:=by omega
   have ha:d.list.getD a.toNat 0∈d.list:=by rw [List.getD_eq_getElem?_getD,AU AB]; exact List.getElem_mem _
   have hb:d.list.getD (a.toNat+1) 0∈d.list:=by rw [List.getD_eq_getElem?_getD,AU hl]; exact List.getElem_mem _
   have na:=hdi.num _ ha
   have nb:=hdi.num _ hb
   have hn:=h.next
   generalize d.list.getD a.toNat 0=x at *
   generalize d.list.getD (a.toNat+1) 0=y at *
   have hp:PrtI (BF (Ay d x) (Ay d y)):=(h.part x).merge (h.part y)
   have hlen:(d.list.take a.toNat++[d.next]++d.list.drop (a.toNat+2)).length≤7:=by
    simp only [List.length_append,List.length_take,List.length_drop,List.length_cons,List.length_nil]; omega
   have hg:∀ z∈[(⟨3,x,⟨[],[]⟩,[],[]⟩:Stp),⟨3,y,⟨[],[]⟩,[],[]⟩],z.kind=3∧KV z∧z.part=⟨[],[]⟩:=fun z hz=>by
    simp only [List.mem_cons,List.not_mem_nil,or_false] at hz
    rcases hz with rfl | rfl
    ·exact ⟨rfl,JQ AD AD AD (by show -9000000≤x∧x≤9000000; omega),rfl⟩
    ·exact ⟨rfl,JQ AD AD AD (by show -9000000≤y∧y≤9000000; omega),rfl⟩
   have h2:DD (doD d ⟨1,d.next,BF (Ay d x) (Ay d y),[],[]⟩):=h.step1 rfl AB (by show 0≤d.next∧d.next≤998; omega) hp
   exact ⟨StW.XM h AB AB hp AD (JR h2 hlen h.g hg AD),JR h hlen h.g hg AD⟩
 ·exact ⟨StW.nil h,StW.nil h⟩
theorem Wa {l:List Stp}{i:Nat}{d:Dsk}{q:Stp}{Y:Dsk}(h:(l.drop i).foldl doD d=Y) (hd:l.drop i=q::l.drop (i+1)):(l.drop (i+1)).foldl doD (doD d q)=Y:=by
 rw [hd] at h
 exact h
theorem QZ {l:List Stp}{i:Nat}{d:Dsk}{Y:Dsk}(h:(l.drop i).foldl doD d=Y) (hi:l.length≤i):d=Y:=by
 rw [Ac hi] at h
 exact h
theorem YK {d:Dsk}{st:List Stp}{c:Int}(hc:¬ c< 0):((st.take (if (st.length:Int)< c then (st.length:Int) else c).toNat).drop 0).foldl doD d=toD d st c:=by
 unfold toD
 rw [List.drop_zero]
 split
 ·rw [show ((st.length:Int)).toNat=st.length by omega,List.take_length,List.take_of_length_le AB]
 ·rfl
theorem KG {l:List Stp}{i:Nat}{x d:Dsk}{st:List Stp}{c:Int}(h:(l.drop i).foldl doD x=toD d st c) (hi:l.length≤i) (hw:StW d st):DD x:=by
 rw [QZ h hi]
 exact hw.ok c.toNat
theorem Ub {d:Dsk}(x:Stp):(doD d x).files.length≤d.files.length+1:=by
 unfold doD
 split
 ·simp
 ·split
  ·simp
  ·split
   ·have:=MD (d:=d) (n:=x.num); simp only; omega
   ·omega
theorem ZR {st:List Stp}{c:Int}{k:Nat}{x:Stp}(h:((st.take (if (st.length:Int)< c then (st.length:Int) else c).toNat).drop 0)[k]? = some x):k< st.length:=by
 have:=(List.getElem?_eq_some_iff.1 h).1
 rw [List.length_drop,List.length_take] at this
 omega
theorem YL {d:Dsk}(h:DD d):d.files.length≤1000:=by have:=h.nf; omega
theorem YM {d:Dsk}(h:DD d):∀ f∈d.files,Cw f.part:=fun f hf=>(h.file f hf).sz
theorem YN {d:Dsk}(h:DD d):d.list.length≤1000:=by have:=h.nl; omega
theorem YO {d:Dsk}(h:DD d):d.names.length≤1000:=by have:=h.g.len; omega
theorem YP {d:Dsk}(h:DD d):∀ n∈d.names,n.length≤1000:=Ua h.g
theorem Uc {d:Dsk}{st:List Stp}{c:Int}(h:BC d=false∨c< 0∨BC (toD d st c)=false):(⟨[],[],[],0⟩:Dsk)=Ak d st c:=by
 unfold Ak
 rw [if_neg]
 ·rfl
 ·rintro ⟨h1,h2,h3⟩
  rcases h with h | h | h
  ·rw [h] at h1; cases h1
  ·omega
  ·rw [h] at h3; cases h3
theorem XO {d:Dsk}{st:List Stp}{c:Int}(h:BC d=true) (h1:¬ c< 0) (h2:BC (toD d st c)=true):Ak d st c=toD d st c:=by
 unfold Ak
 rw [if_pos ⟨h,by omega,h2⟩]
theorem Wb {l:List Stp}{i:Nat}{x d:Dsk}{st:List Stp}{c:Int}(h:(l.drop i).foldl doD x=toD d st c) (hi:l.length≤i) (h2:BC x=false):(⟨[],[],[],0⟩:Dsk)=Ak d st c:=by
 rw [QZ h hi] at h2
 exact Uc (.inr (.inr h2))
theorem Wc {l:List Stp}{i:Nat}{x d:Dsk}{st:List Stp}{c:Int}(h:(l.drop i).foldl doD x=toD d st c) (hi:l.length≤i) (h0:BC d=true) (h1:¬ c< 0) (h2:BC x=true):x=Ak d st c:=by
 rw [QZ h hi] at h2 ⊢
 exact (XO h0 h1 h2).symm
theorem YQ {d:Dsk}{st:List Stp}(c:Int) (h:StW d st):DD (toD d st c):=h.ok c.toNat
theorem DD.tidy {d:Dsk}(h:DD d):DD (BN d):=⟨h.g,h.nl,Nat.le_trans (List.length_filter_le _ _) h.nf,fun f hf=>h.file f (List.mem_filter.1 hf).1,h.next⟩
theorem Wd {d:Dsk}(h:BC d=false):(⟨[],[],[],0⟩:Dsk)=CM d:=by unfold CM; rw [if_neg (by simp [h])]; rfl
theorem LJ {d:Dsk}(h:BC d=true):CM d=BN d:=by unfold CM; rw [if_pos h]
theorem Cs {l:List Fil}{i:Nat}{k:List Fil}{q:Fil}(h:k++l.drop i=l) (hd:l.drop i=q::l.drop (i+1)):(k++[q])++l.drop (i+1)=l:=by
 rw [hd] at h
 simpa using h
theorem CN {α:Type}{l:List α}{i:Nat}{k:List α}(h:k++l.drop i=l) (hi:l.length≤i):k=l:=by
 rw [Ac hi] at h
 simpa using h
theorem XP {d:Dsk}{a:Int}(h:BC d=true) (h1:inR a 0 ((d.list.length:Int) - 2)=false∨FA d=true):[]=Ag d a:=by
 rw [ET h,I3]
 rcases h1 with h1 | h1
 ·exact .inl h1
 ·rcases RW h1 with h1 | h1
  ·exact .inr (.inl AB)
  ·exact .inr (.inr AB)
theorem NP {d:Dsk}{n:Int}(hn:n∈d.list):Ay d n∈(Ar d).parts:=by
 show _∈d.list.map (Ay d)
 exact List.mem_map.2 ⟨n,hn,rfl⟩
theorem Ud {d:Dsk}{at_ a b:Int}{f g:Fil}(hd:DD d) (h:BC d=true) (h1:inR at_ 0 ((d.list.length:Int) - 2)=true) (h2:FA d=false) (ha:d.list[at_.toNat]? = some a) (hb:d.list[(at_+1).toNat]? = some b) (hf:d.files[(At d a).toNat]? = some f) (hg:d.files[(At d b).toNat]? = some g) :
 [⟨1,d.next,(CE f.part g.part).1,[],[]⟩,⟨2,0,⟨[],[]⟩,(([]++(d.list.take at_.toNat).drop 0)++[d.next])++(d.list.take d.list.length).drop (at_+2).toNat,d.names⟩,⟨3,a,⟨[],[]⟩,[],[]⟩,⟨3,b,⟨[],[]⟩,[],[]⟩]=Ag d at_:=by
 have hx:=RV h2
 have hk:=C9 h
 have:=hd.nf
 have hs:=hd.sd h
 have hso:=(GQ h).2.1
 have e:=L8 hs hso (NP (AV ha)) (NP (AV hb))
 rw [FI hf,FI hg] at e
 rw [e,ET h,Ej h1 AB AB ha hb hf hg]
end Go.Proofs.YtfninflnngpchaaGreatDoor
namespace Go.Proofs.YtfninflnngpchaaGreatDoor
def Di (l:List Int):Nat→List Fil→Int
 | _,[]=>-1
 | i,f::fs=>if l.contains f.num then Di l (i+1) fs else i
theorem YR {l:List Int}{s:List Fil}{k:Nat}{f:Fil}(h:Di l k (s.drop k)=Di l 0 s) (hd:s.drop k=f::s.drop (k+1)) (hc:(!(l.contains f.num))=false):Di l (k+1) (s.drop (k+1))=Di l 0 s:=by
 rw [← h,hd]
 show _=if l.contains f.num then Di l (k+1) (s.drop (k+1)) else (k:Int)
 rw [if_pos (by simpa using hc)]
theorem Ue {l:List Int}{s:List Fil}{k:Nat}{f:Fil}(h:Di l k (s.drop k)=Di l 0 s) (hd:s.drop k=f::s.drop (k+1)) (hc:(!(l.contains f.num))=true):(k:Int)=Di l 0 s:=by
 rw [← h,hd]
 show _=if l.contains f.num then Di l (k+1) (s.drop (k+1)) else (k:Int)
 rw [if_neg (by simpa using hc)]
theorem Uf {l:List Int}{s:List Fil}{k:Nat}(h:Di l k (s.drop k)=Di l 0 s) (hk:s.length≤k):(-1:Int)=Di l 0 s:=by
 rw [Ac hk] at h
 exact h
theorem Hz (l:List Int):∀ (s:List Fil) (i:Nat),(Di l i s = -1∧s.filter (fun f=>l.contains f.num)=s)∨∃ k:Nat,Di l i s=(i+k:Nat)∧k< s.length∧s.take k=(s.take (k+1)).filter (fun f=>l.contains f.num):=by
 intro s
 induction s with
 | nil=>intro i; exact .inl ⟨rfl,rfl⟩
 | cons f fs ih =>
   intro i
   unfold Di
   by_cases hc:l.contains f.num=true
   ·rw [if_pos hc]
    rcases ih (i+1) with ⟨h1,h2⟩ | ⟨k,h1,h2,h3⟩
    ·left
     refine ⟨h1,?_⟩
     rw [List.filter_cons,if_pos hc,h2]
    ·right
     refine ⟨k+1,by rw [h1]; omega,by simp; omega,?_⟩
     rw [List.take_succ_cons,List.take_succ_cons,List.filter_cons,if_pos hc,← h3]
   ·rw [if_neg hc]
    right
    refine ⟨0,by simp,by simp,?_⟩
    simp only [List.take_zero,Nat.zero_add,List.take_succ_cons]
    rw [List.filter_cons,if_neg hc]
    rfl
theorem RX {l:List Int}{s:List Fil}(h:¬ Di l 0 s = -1):0≤Di l 0 s:=by
 rcases Hz l s 0 with ⟨h1,_⟩ | ⟨k,h1,_⟩
 ·exact absurd h1 h
 ·omega
theorem RY (l:List Int) (s:List Fil):Di l 0 s< s.length∨s.length=0∧Di l 0 s = -1:=by
 rcases Hz l s 0 with ⟨h1,_⟩ | ⟨k,h1,h2,_⟩
 ·by_cases e:s.length=0
  ·exact .inr ⟨e,h1⟩
  ·exact .inl AB
 ·exact .inl AB
theorem Sm {l:List Int}{s:List Fil}(h:¬ Di l 0 s = -1):s.take (Di l 0 s).toNat=(s.take (Di l 0 s+1).toNat).filter (fun f=>l.contains f.num):=by
 rcases Hz l s 0 with ⟨h1,_⟩ | ⟨k,h1,h2,h3⟩
 ·exact absurd h1 h
 ·rw [h1,show (((0+k:Nat):Int)).toNat=k by omega,show (((0+k:Nat):Int)+1).toNat=k+1 by omega]
  exact h3
theorem We {l:List Int}{s:List Fil}(h:Di l 0 s = -1):s=s.filter (fun f=>l.contains f.num):=by
 rcases Hz l s 0 with ⟨_,h1⟩ | ⟨k,h1,h2,h3⟩
 ·exact h1.symm
 ·omega
theorem Kd {α:Type}{a b:List α}{j:Nat}{x:α}(h:a.drop j=b.drop j) (hx:a[j]? = some x):b[j]? = some x:=by
 have h1:(a.drop j)[0]? = (b.drop j)[0]? := by rw [h]
 rw [List.getElem?_drop,List.getElem?_drop,Nat.add_zero] at h1
 rw [← h1]; exact hx
theorem NQ {α:Type}{b:List α}{j:Int}{x:α}(hj:0≤j) (hx:b[j.toNat]? = some x):b.take (j+1).toNat=b.take j.toNat++[x]:=by
 rw [show (j+1).toNat=j.toNat+1 by omega,List.take_add_one,hx]
 rfl
theorem Ug {l:List Int}{xs xs0:List Fil}{i j:Int}{v:Fil}(h:xs.take i.toNat=(xs0.take j.toNat).filter (fun f=>l.contains f.num)) (h2:xs.drop j.toNat=xs0.drop j.toNat) (hv:xs[j.toNat]? = some v) (hi:0≤i) (hij:i< j) (hl:j< xs.length) (hc:(!(l.contains v.num))=false):(xs.set i.toNat v).take (i+1).toNat=(xs0.take (j+1).toNat).filter (fun f=>l.contains f.num):=by
 have h0:=Kd h2 hv
 rw [NQ AB h0,List.filter_append,← h,List.filter_cons,if_pos (by simpa using hc),show (i+1).toNat=i.toNat+1 by omega,List.take_add_one,List.take_set_of_le (Nat.le_refl _),List.getElem?_set_self AB]
 rfl
theorem Uh {l:List Int}{xs xs0:List Fil}{i j:Int}{v:Fil}(h:xs.take i.toNat=(xs0.take j.toNat).filter (fun f=>l.contains f.num)) (h2:xs.drop j.toNat=xs0.drop j.toNat) (hv:xs[j.toNat]? = some v) (hj:0≤j) (hc:(!(l.contains v.num))=true):xs.take i.toNat=(xs0.take (j+1).toNat).filter (fun f=>l.contains f.num):=by
 have h0:=Kd h2 hv
 rw [NQ hj h0,List.filter_append,← h,List.filter_cons,if_neg (by simpa using hc)]
 simp
theorem Sn {xs xs0:List Fil}{i j:Int}{v:Fil}(h2:xs.drop j.toNat=xs0.drop j.toNat) (hi:0≤i) (hij:i< j) (_hj:0≤j):(xs.set i.toNat v).drop (j+1).toNat=xs0.drop (j+1).toNat:=by
 rw [List.drop_set_of_lt AB,show (j+1).toNat=j.toNat+1 by omega,← List.drop_drop,← List.drop_drop,h2]
theorem Ui {xs xs0:List Fil}{j:Int}(h2:xs.drop j.toNat=xs0.drop j.toNat) (hj:0≤j):xs.drop (j+1).toNat=xs0.drop (j+1).toNat:=by
 rw [show (j+1).toNat=j.toNat+1 by omega,← List.drop_drop,← List.drop_drop,h2]
theorem Wf {l:List Int}{xs xs0:List Fil}{i j:Int}(h:xs.take i.toNat=(xs0.take j.toNat).filter (fun f=>l.contains f.num)) (h2:xs.drop j.toNat=xs0.drop j.toNat) (hj:(xs.length:Int)≤j) (hij:0≤j):xs.take i.toNat=xs0.filter (fun f=>l.contains f.num):=by
 rw [h]
 congr 1
 have h3:xs0.drop j.toNat=[]:=by rw [← h2]; exact List.drop_of_length_le AB
 rw [List.drop_eq_nil_iff] at h3
 exact List.take_of_length_le h3
end Go.Proofs.YtfninflnngpchaaGreatDoor
namespace Go.Proofs.YtfninflnngpchaaGreatDoor
theorem RZ:∀ (fs:List Fil) (n:Int) (i:Nat),0≤DN n i fs→∃ f,fs[(DN n i fs).toNat - i]? = some f∧f.num=n∧i≤(DN n i fs).toNat:=by
 intro fs
 induction fs with
 | nil=>intro n i h; exact absurd h (by unfold DN; omega)
 | cons x xs ih =>
   intro n i h
   unfold DN at h ⊢
   split at h
   ·next e =>
    rw [if_pos e]
    exact ⟨x,by simp,by simpa using e,by simp⟩
   ·next e =>
    rw [if_neg e]
    obtain ⟨f,h1,h2,h3⟩:=ih n (i+1) h
    refine ⟨f,?_,h2,by omega⟩
    rw [show (DN n (i+1) xs).toNat - i=((DN n (i+1) xs).toNat - (i+1))+1 by omega,List.getElem?_cons_succ]
    exact h1
end Go.Proofs.YtfninflnngpchaaGreatDoor
namespace Go.Proofs.YtfninflnngpchaaGreatDoor
theorem NR (nx:Int):∀ (fs:List Fil) (o:Option Int),Dh nx o fs=true↔(∀ f∈fs,1≤f.num∧f.num≤nx - 1∧Av f.part=true)∧fs.Pairwise (fun a b=>a.num< b.num)∧∀ q,o=some q→∀ f∈fs,q< f.num:=by
 intro fs
 induction fs with
 | nil=>intro o; simp [Dh]
 | cons x xs ih =>
   intro o
   unfold Dh
   simp only [AW]
   rw [ih]
   constructor
   ·rintro ⟨⟨⟨h1,h2⟩,h3⟩,h4,h5,h6⟩
    have h1:=BW h1
    refine ⟨fun f hf=>?_,List.pairwise_cons.2 ⟨fun f hf=>h6 _ rfl f hf,h5⟩,fun q hq f hf=>?_⟩
    ·rcases List.mem_cons.1 hf with rfl | hf
     ·exact ⟨h1.1,h1.2,h3⟩
     ·exact h4 f hf
    ·subst hq
     have hx:q< x.num:=by simpa using h2
     rcases List.mem_cons.1 hf with rfl | hf
     ·exact hx
     ·have:=h6 _ rfl f hf; omega
   ·rintro ⟨h1,h2,h3⟩
    obtain ⟨h4,h5⟩:=List.pairwise_cons.1 h2
    have hx:=h1 x AD
    refine ⟨⟨⟨?_,?_⟩,hx.2.2⟩,fun f hf=>h1 f (by simp [hf]),h5,fun q hq f hf=>?_⟩
    ·unfold inR; rw [decide_eq_true hx.1,decide_eq_true hx.2.1]; rfl
    ·cases o with
     | none=>rfl
     | some q=>simpa using h3 q rfl x AD
    ·cases hq
     exact h4 f hf
theorem Ra:∀ (fs:List Fil) (i:Nat) (f:Fil),fs.Pairwise (fun a b=>a.num< b.num)→f∈fs→∃ k:Nat,DN f.num i fs=((i+k:Nat):Int)∧fs[k]? = some f:=by
 intro fs
 induction fs with
 | nil=>intro i f _ hf; cases hf
 | cons x xs ih =>
   intro i f hp hf
   obtain ⟨h1,h2⟩:=List.pairwise_cons.1 hp
   unfold DN
   rcases List.mem_cons.1 hf with rfl | hf
   ·exact ⟨0,by simp,rfl⟩
   ·have:=h1 f hf
    rw [if_neg (by simp; omega)]
    obtain ⟨k,g1,g2⟩:=ih (i+1) f h2 hf
    exact ⟨k+1,by rw [g1]; omega,by rw [List.getElem?_cons_succ]; exact g2⟩
theorem E1 {d:Dsk}(hp:d.files.Pairwise (fun a b=>a.num< b.num)){f:Fil}(hf:f∈d.files):Ay d f.num=f.part∧0≤At d f.num:=by
 obtain ⟨k,h1,h2⟩:=Ra d.files 0 f hp hf
 have h3:At d f.num=(k:Int):=by unfold At; rw [h1]; simp
 refine ⟨FI (by rw [h3]; exact h2),by omega⟩
structure DskV (d:Dsk):Prop where
 next:1≤d.next∧d.next≤999
 nf:d.files.length≤20
 nl:d.list.length≤6
 file:∀ f∈d.files,1≤f.num∧f.num≤d.next - 1∧Av f.part=true
 asc:d.files.Pairwise (fun a b=>a.num< b.num)
 at_:∀ n∈d.list,∃ f∈d.files,f.num=n
 nd:d.list.Nodup
 nm:nmB d.names=true
 so:Aa (Ar d)=true
theorem Ct {d:Dsk}:BC d=true↔DskV d:=by
 unfold BC
 simp only [AW,decide_eq_true_eq]
 constructor
 ·rintro ⟨⟨⟨⟨⟨h1,h2⟩,h3⟩,h4⟩,h5⟩,h6,h7⟩
  obtain ⟨g1,g2,_⟩:=(NR _ _ _).1 h4
  unfold EA at h5
  simp only [AW,decide_eq_true_eq,List.all_eq_true] at h5
  exact ⟨BW h1,h2,h3,g1,g2,fun n hn=>(FQ d n).1 (h5.1 n hn),h5.2,h6,h7⟩
 ·rintro ⟨h1,h2,h3,h4,h5,h6,h7,h8,h9⟩
  refine ⟨⟨⟨⟨⟨?_,h2⟩,h3⟩,(NR _ _ _).2 ⟨h4,h5,by simp⟩⟩,?_⟩,h8,h9⟩
  ·unfold inR; rw [decide_eq_true h1.1,decide_eq_true h1.2]; rfl
  ·unfold EA
   simp only [AW,decide_eq_true_eq,List.all_eq_true]
   exact ⟨fun n hn=>(FQ d n).2 (h6 n hn),h7⟩
theorem DskV.lt {d:Dsk}(h:DskV d):∀ n∈d.list,1≤n∧n< d.next:=fun n hn=>by
 obtain ⟨f,hf,rfl⟩:=h.at_ n hn
 have:=h.file f hf
 omega
theorem Wg {d e:Dsk}(hn:e.names=d.names) (hl:e.list=d.list) (hp:∀ n∈d.list,Ay e n=Ay d n):Ar e=Ar d:=by
 unfold Ar
 rw [hn,hl,List.map_congr_left hp]
theorem DskV.files {d:Dsk}(h:DskV d){fs:List Fil}{nx:Int}(h1:1≤nx∧nx≤999) (h2:fs.length≤20) (h3:∀ f∈fs,1≤f.num∧f.num≤nx - 1∧Av f.part=true) (h4:fs.Pairwise (fun a b=>a.num< b.num)) (h5:∀ f∈d.files,f.num∈d.list→f∈fs) :
 DskV ⟨fs,d.list,d.names,nx⟩∧Ar ⟨fs,d.list,d.names,nx⟩=Ar d:=by
 have e:Ar ⟨fs,d.list,d.names,nx⟩=Ar d:=Wg rfl rfl (fun n hn=>by
  obtain ⟨f,hf,rfl⟩:=h.at_ n hn
  rw [(E1 h.asc hf).1,(E1 (d:=⟨fs,d.list,d.names,nx⟩) h4 (h5 f hf hn)).1])
 refine ⟨⟨h1,h2,h.nl,h3,h4,fun n hn=>?_,h.nd,h.nm,by rw [e]; exact h.so⟩,e⟩
 obtain ⟨f,hf,rfl⟩:=h.at_ n hn
 exact ⟨f,h5 f hf hn,rfl⟩
theorem DskV.add {d:Dsk}(h:DskV d){p:Prt}(hp:Av p=true) (h1:d.next< 999) (h2:d.files.length< 20):DskV ⟨d.files++[⟨d.next,p⟩],d.list,d.names,d.next+1⟩∧Ar ⟨d.files++[⟨d.next,p⟩],d.list,d.names,d.next+1⟩=Ar d:=by
 have hn:=h.next
 refine h.files AB (by simp; omega) (fun f hf=>?_) ?_ (fun f hf _=>List.mem_append.2 (.inl hf))
 ·rcases List.mem_append.1 hf with hf | hf
  ·have:=h.file f hf
   exact ⟨this.1,by omega,this.2.2⟩
  ·simp at hf
   subst hf
   exact ⟨hn.1,by simp,hp⟩
 ·rw [List.pairwise_append]
  refine ⟨h.asc,by simp,fun a ha b hb=>?_⟩
  simp at hb
  subst hb
  have:=h.file a ha
  show a.num< d.next
  omega
theorem DskV.gone {d:Dsk}(h:DskV d) (n:Int):DskV ⟨D8 d n,d.list,d.names,d.next⟩∧Ar ⟨D8 d n,d.list,d.names,d.next⟩=Ar d:=by
 refine h.files h.next (Nat.le_trans MD h.nf) (fun f hf=>h.file f (HX f hf)) ?_ (fun f hf hm=>?_)
 ·refine h.asc.sublist ?_
  unfold D8
  split
  ·have e:=List.take_append_drop (At d n).toNat d.files
   conv=>rhs; rw [← e]
   refine List.Sublist.append (List.Sublist.refl _) ?_
   rw [← List.drop_drop]
   exact List.drop_sublist 1 _
  ·exact List.Sublist.refl _
 ·unfold D8
  split
  ·rename_i hc
   obtain ⟨k,g1,g2⟩:=Ra d.files 0 f h.asc hf
   have g3:At d f.num=(k:Int):=by unfold At; rw [g1]; simp
   by_cases hk:k< (At d n).toNat
   ·refine List.mem_append.2 (.inl (List.mem_iff_getElem?.2 ⟨k,?_⟩))
    rw [List.getElem?_take,if_pos hk]
    exact g2
   ·by_cases hk2:k=(At d n).toNat
    ·obtain ⟨y,hy1,hy2,_⟩:=(fun hh=>RZ d.files n 0 hh) hc.1
     have hy1':d.files[(At d n).toNat]? = some y:=hy1
     rw [← hk2,g2] at hy1'
     cases hy1'
     rw [hy2] at hm
     have:=hc.2
     rw [List.contains_iff_mem.2 hm] at this
     cases this
    ·refine List.mem_append.2 (.inr (List.mem_iff_getElem?.2 ⟨k - ((At d n).toNat+1),?_⟩))
     rw [List.getElem?_drop,show (At d n).toNat+1+(k - ((At d n).toNat+1))=k by omega]
     exact g2
  ·exact hf
theorem DskV.tidy {d:Dsk}(h:DskV d):DskV (BN d)∧Ar (BN d)=Ar d:=by
 refine h.files h.next (Nat.le_trans (List.length_filter_le _ _) h.nf) (fun f hf=>h.file f (List.mem_filter.1 hf).1) (h.asc.sublist List.filter_sublist) (fun f hf hm=>List.mem_filter.2 ⟨hf,?_⟩)
 simpa using hm
theorem DskV.Uj {d:Dsk}(h:DskV d):(BN d).files.length=d.list.length:=by
 have h1:((BN d).files.map Fil.num).Nodup:=by
  unfold List.Nodup
  rw [List.pairwise_map]
  exact (h.asc.sublist List.filter_sublist).imp (fun hab=>by omega)
 have h2:∀ n∈(BN d).files.map Fil.num,n∈d.list:=fun n hn=>by
  obtain ⟨f,hf,rfl⟩:=List.mem_map.1 hn
  have:=(List.mem_filter.1 hf).2
  simpa using this
 have h3:∀ n∈d.list,n∈(BN d).files.map Fil.num:=fun n hn=>by
  obtain ⟨f,hf,rfl⟩:=h.at_ n hn
  exact List.mem_map.2 ⟨f,List.mem_filter.2 ⟨hf,by simpa using hn⟩,rfl⟩
 have a:=ND _ _ h1 h2
 have b:=ND _ _ h.nd h3
 rw [List.length_map] at a b
 omega
theorem NS {d:Dsk}{st:List Stp}{c:Int}(h:c≤0):toD d st c=d:=by
 unfold toD
 rw [show c.toNat=0 by omega]
 rfl
theorem DA {d:Dsk}{x:Stp}{st:List Stp}{c:Int}(h:1≤c):toD d (x::st) c=toD (doD d x) st (c - 1):=by
 unfold toD
 rw [show c.toNat=(c - 1).toNat+1 by omega]
 rfl
theorem LK {d:Dsk}{c:Int}:toD d [] c=d:=by
 unfold toD
 simp
theorem Uk {s:Sto}(h:s.idx=idxOf s.idx.names){ps:List Prt}{m:List Smp}:(⟨idxOf s.idx.names,ps,m⟩:Sto)=⟨s.idx,ps,m⟩:=by rw [← h]
structure FlD (d:Dsk) (s:Sto):Prop where
 v:DskV d
 sd:SD s
 k:Aa s=true
 nb:nmB s.idx.names=true
 p:s.parts=d.list.map (Ay d)
 m:s.mem≠[]
 l:d.list.length< 6
 n:d.next< 999
 f:d.files.length< 20
theorem Qa {s:Sto}(h:SD s) (hk:Aa s=true) (h1:s.mem≠[]) (h2:s.parts.length< 6):Av (Ai s.mem)=true:=by
 have h5:=JE h hk h1 h2
 unfold Aa at h5
 simp only [AW,decide_eq_true_eq,List.all_eq_true] at h5
 exact FK (h5.1.1.2 (Ai s.mem) (by unfold Cz; simp))
theorem FlD.to {d:Dsk}{s:Sto}(q:FlD d s) (c:Int):DskV (toD d (BB d s) c)∧Ar (toD d (BB d s) c)=if c< 2 then Ar d else Cz s:=by
 have hpl:s.parts.length< 6:=by rw [q.p,List.length_map]; exact q.l
 have e:=DT (d:=d) (s:=s) (by have:=q.m; rw [← List.length_pos_iff] at this; omega) (by have:=q.l; omega) (by have:=q.n; omega) (by have:=q.f; omega)
 rw [e]
 by_cases h0:c≤0
 ·rw [NS h0,if_pos AB]
  exact ⟨q.v,rfl⟩
 ·have hp:=Qa q.sd q.k q.m hpl
  obtain ⟨v1,o1⟩:=q.v.add hp q.n q.f
  rw [DA AB,FP rfl]
  by_cases h1:c≤1
  ·rw [NS AB,if_pos AB]
   exact ⟨v1,o1⟩
  ·rw [DA AB,HN rfl,LK,if_neg AB]
   have hnew:Ay ⟨d.files++[⟨d.next,Ai s.mem⟩],d.list++[d.next],s.idx.names,d.next+1⟩ d.next=Ai s.mem:=(E1 (d:=⟨d.files++[⟨d.next,Ai s.mem⟩],d.list++[d.next],s.idx.names,d.next+1⟩) v1.asc (f:=⟨d.next,Ai s.mem⟩) AD).1
   have hold:∀ n∈d.list,Ay ⟨d.files++[⟨d.next,Ai s.mem⟩],d.list++[d.next],s.idx.names,d.next+1⟩ n=Ay d n:=fun n hn=>by
    obtain ⟨f,hf,rfl⟩:=q.v.at_ n hn
    rw [(E1 q.v.asc hf).1,(E1 (d:=⟨d.files++[⟨d.next,Ai s.mem⟩],d.list++[d.next],s.idx.names,d.next+1⟩) v1.asc (f:=f) (List.mem_append.2 (.inl hf))).1]
   have eo:Ar ⟨d.files++[⟨d.next,Ai s.mem⟩],d.list++[d.next],s.idx.names,d.next+1⟩=Cz s:=by
    unfold Ar Cz
    rw [Uk q.sd.idx]
    simp only [List.map_append,List.map_cons,List.map_nil]
    rw [hnew,List.map_congr_left hold,q.p]
   refine ⟨⟨v1.next,v1.nf,by have:=q.l; simp; omega,v1.file,v1.asc,fun n hn=>?_,?_,q.nb,by rw [eo]; exact JE q.sd q.k q.m hpl⟩,eo⟩
   ·rcases List.mem_append.1 hn with hn | hn
    ·exact v1.at_ n hn
    ·simp at hn
     exact ⟨⟨d.next,Ai s.mem⟩,by simp,hn.symm⟩
   ·rw [List.nodup_append]
    refine ⟨q.v.nd,by simp,fun a ha b hb=>?_⟩
    simp at hb
    subst hb
    have:=q.v.lt a ha
    omega
theorem FlD.of {d:Dsk}{s:Sto}(hs:SD s) (h:¬ ((Af d s).length:Int)=0):FlD d s∧Af d s=BB d s:=by
 cases hf:Cr d s with
 | false=>rw [PT hf] at h; exact absurd rfl h
 | true =>
   have q:=DM hf
   have e:=FX hf
   by_cases hc:s.mem.length=0∨d.list.length≥6∨d.next≥999∨d.files.length≥20
   ·have e2:BB d s=[]:=by unfold BB; rw [if_pos hc]
    rw [e,e2] at h; exact absurd rfl h
   ·exact ⟨⟨Ct.1 q.dk,hs,q.sk,q.nm,q.p,fun e2=>hc (.inl (by rw [e2]; rfl)),by omega,by omega,by omega⟩,e⟩
structure MgD (d:Dsk) (a:Nat) (x y:Int):Prop where
 v:DskV d
 dd:DD d
 l:a+2≤d.list.length
 hx:d.list[a]? = some x
 hy:d.list[a+1]? = some y
 n:d.next< 999
 f:d.files.length< 20
 e:Al d a=[⟨1,d.next,BF (Ay d x) (Ay d y),[],[]⟩,⟨2,0,⟨[],[]⟩,d.list.take a++[d.next]++d.list.drop (a+2),d.names⟩,⟨3,x,⟨[],[]⟩,[],[]⟩,⟨3,y,⟨[],[]⟩,[],[]⟩]
theorem MgD.of {d:Dsk}{i:Int}(hd:DD d) (h:¬ ((Ag d i).length:Int)=0):∃ x y,MgD d i.toNat x y∧Ag d i=Al d i.toNat∧i=(i.toNat:Int):=by
 cases hk:BC d with
 | false=>rw [PV hk] at h; exact absurd rfl h
 | true =>
   rw [ET hk] at h ⊢
   by_cases hc:(!(inR i 0 ((d.list.length:Int) - 2)) || decide (d.next≥999) || decide (d.files.length≥20))=true
   ·unfold Al at h
    rw [if_pos hc] at h
    exact absurd rfl h
   ·have hc2:=hc
    simp only [Bool.or_eq_true,not_or,Bool.not_eq_true,Bool.not_eq_false',decide_eq_true_eq] at hc2
    obtain ⟨⟨h1,h3⟩,h4⟩:=hc2
    have h0:=BW (by simpa using h1)
    have ei:i=(i.toNat:Int):=by omega
    have hx:=AU (l:=d.list) (i:=i.toNat) AB
    have hy:=AU (l:=d.list) (i:=i.toNat+1) AB
    refine ⟨_,_,⟨Ct.1 hk,hd,by omega,hx,hy,by omega,by omega,?_⟩,by rw [← ei],ei⟩
    rw [← ei]
    unfold Al
    rw [if_neg hc]
    simp only [List.getD_eq_getElem?_getD,hx,hy,Option.getD_some]
section
variable {d:Dsk} {a:Nat} {x y:Int}
theorem MgD.list (q:MgD d a x y):d.list=d.list.take a++x::y::d.list.drop (a+2):=by
 have e:=List.take_append_drop a d.list
 rw [drop_at q.hx,drop_at q.hy] at e
 exact e.symm
theorem MgD.open (q:MgD d a x y):(Ar d).parts[a]? = some (Ay d x)∧(Ar d).parts[a+1]? = some (Ay d y)∧(Ar d).parts.length=d.list.length:=by
 unfold Ar
 simp only [List.getElem?_map,q.hx,q.hy,List.length_map]
 exact ⟨rfl,rfl,trivial⟩
theorem MgD.sd (q:MgD d a x y):SD (Ar d):=q.dd.sd (Ct.2 q.v)
theorem MgD.part (q:MgD d a x y):Av (BF (Ay d x) (Ay d y))=true:=by
 have hl:a+2≤(Ar d).parts.length:=by rw [q.open.2.2]; exact q.l
 have h:=GP q.sd q.v.so hl
 obtain ⟨u,w,hu,hw,e⟩:=FL hl
 rw [q.open.1] at hu
 rw [q.open.2.1] at hw
 cases hu
 cases hw
 unfold Aa at h
 simp only [AW,decide_eq_true_eq,List.all_eq_true] at h
 exact FK (h.1.1.2 _ (by rw [e]; simp))
theorem MgD.mem (q:MgD d a x y):∀ n∈d.list.take a++[d.next]++d.list.drop (a+2),n∈d.list∧n≠x∧n≠y∨n=d.next:=fun n hn=>by
 have hnd:=q.v.nd
 rw [q.list] at hnd
 rw [List.nodup_append,List.nodup_cons,List.nodup_cons] at hnd
 obtain ⟨n1,⟨n2,n3,n4⟩,n5⟩:=hnd
 rcases List.mem_append.1 hn with hn | hn
 ·rcases List.mem_append.1 hn with hn | hn
  ·exact .inl ⟨List.mem_of_mem_take hn,n5 n hn x AD,n5 n hn y AD⟩
  ·simp at hn; exact .inr hn
 ·exact .inl ⟨List.mem_of_mem_drop hn,fun e=>n2 (by rw [← e]; simp [hn]),fun e=>n3 (by rw [← e]; exact hn)⟩
def mgD (d:Dsk) (a:Nat) (x y:Int):Dsk:=⟨d.files++[⟨d.next,BF (Ay d x) (Ay d y)⟩],d.list.take a++[d.next]++d.list.drop (a+2),d.names,d.next+1⟩
theorem MgD.v2 (q:MgD d a x y):DskV (mgD d a x y)∧Ar (mgD d a x y)=CV (Ar d) a:=by
 obtain ⟨v1,o1⟩:=q.v.add q.part q.n q.f
 have hnew:Ay (mgD d a x y) d.next=BF (Ay d x) (Ay d y):=(E1 (d:=mgD d a x y) v1.asc (f:=⟨d.next,BF (Ay d x) (Ay d y)⟩) (by unfold mgD; simp)).1
 have hold:∀ n∈d.list,Ay (mgD d a x y) n=Ay d n:=fun n hn=>by
  obtain ⟨f,hf,rfl⟩:=q.v.at_ n hn
  rw [(E1 q.v.asc hf).1,(E1 (d:=mgD d a x y) v1.asc (f:=f) (List.mem_append.2 (.inl hf))).1]
 have hl:a+2≤(Ar d).parts.length:=by rw [q.open.2.2]; exact q.l
 have eo:Ar (mgD d a x y)=CV (Ar d) a:=by
  obtain ⟨u,w,hu,hw,e⟩:=FL hl
  rw [q.open.1] at hu
  rw [q.open.2.1] at hw
  cases hu
  cases hw
  have h1:(Ar (mgD d a x y)).parts=(CV (Ar d) a).parts:=by
   rw [e]
   show (d.list.take a++[d.next]++d.list.drop (a+2)).map (Ay (mgD d a x y))=(d.list.map (Ay d)).take a++[_]++(d.list.map (Ay d)).drop (a+2)
   simp only [List.map_append,List.map_cons,List.map_nil]
   rw [hnew,List.map_congr_left (fun n hn=>hold n (List.mem_of_mem_take hn)),List.map_congr_left (l:=d.list.drop (a+2)) (fun n hn=>hold n (List.mem_of_mem_drop hn)),List.map_take,List.map_drop]
  show (⟨_,_,_⟩:Sto)=⟨_,_,_⟩
  have h2:(Ar (mgD d a x y)).parts=Gi (Ar d).parts a:=h1
  unfold Ar at h2 ⊢
  simp only [] at h2 ⊢
  rw [h2]
  rfl
 refine ⟨⟨v1.next,v1.nf,?_,v1.file,v1.asc,fun n hn=>?_,?_,q.v.nm,by rw [eo]; exact GP q.sd q.v.so hl⟩,eo⟩
 ·have:=q.v.nl
  show (d.list.take a++[d.next]++d.list.drop (a+2)).length≤6
  simp only [List.length_append,List.length_take,List.length_drop,List.length_cons,List.length_nil]
  have:=q.l
  omega
 ·rcases q.mem n hn with hn | rfl
  ·exact v1.at_ n hn.1
  ·exact ⟨⟨d.next,BF (Ay d x) (Ay d y)⟩,by unfold mgD; simp,rfl⟩
 ·show (d.list.take a++[d.next]++d.list.drop (a+2)).Nodup
  have hnd:=q.v.nd
  rw [q.list] at hnd
  rw [List.nodup_append,List.nodup_cons,List.nodup_cons] at hnd
  obtain ⟨n1,⟨n2,n3,n4⟩,n5⟩:=hnd
  have hlt:=q.v.lt
  rw [List.append_assoc,List.nodup_append]
  refine ⟨n1,?_,fun u hu w hw=>?_⟩
  ·rw [List.singleton_append,List.nodup_cons]
   exact ⟨fun hm=>by have:=hlt _ (List.mem_of_mem_drop hm); omega,n4⟩
  ·have hu2:=hlt u (List.mem_of_mem_take hu)
   rcases List.mem_append.1 hw with hw | hw
   ·simp at hw; omega
   ·exact n5 u hu w (by simp [hw])
theorem MgD.to (q:MgD d a x y) (c:Int):DskV (toD d (Al d a) c)∧Ar (toD d (Al d a) c)=if c< 2 then Ar d else CV (Ar d) a:=by
 rw [q.e]
 by_cases h0:c≤0
 ·rw [NS h0,if_pos AB]
  exact ⟨q.v,rfl⟩
 ·obtain ⟨v1,o1⟩:=q.v.add q.part q.n q.f
  rw [DA AB,FP rfl]
  by_cases h1:c≤1
  ·rw [NS AB,if_pos AB]
   exact ⟨v1,o1⟩
  ·obtain ⟨v2,o2⟩:=q.v2
   have e2:doD (⟨d.files++[⟨d.next,BF (Ay d x) (Ay d y)⟩],d.list,d.names,d.next+1⟩:Dsk) ⟨2,0,⟨[],[]⟩,d.list.take a++[d.next]++d.list.drop (a+2),d.names⟩=mgD d a x y:=HN rfl
   rw [DA AB,e2,if_neg AB]
   by_cases h2:c≤2
   ·rw [NS AB]
    exact ⟨v2,o2⟩
   ·obtain ⟨v3,o3⟩:=v2.gone x
    rw [DA AB,Fm rfl]
    by_cases h3:c≤3
    ·rw [NS AB]
     exact ⟨v3,o3.trans o2⟩
    ·obtain ⟨v4,o4⟩:=v3.gone y
     rw [DA AB,Fm rfl,LK]
     exact ⟨v4,(o4.trans o3).trans o2⟩
end
end Go.Proofs.YtfninflnngpchaaGreatDoor
namespace Go.Proofs.YtfninflnngpchaaGreatDoor
theorem Ul {d:Dsk}{st:List Stp}{c:Int}(h:DD d) (hw:BC d=true→StW d st):DD (Ak d st c):=by
 unfold Ak
 split
 ·rename_i hc
  exact YQ c (hw hc.1)
 ·exact US
theorem Um {d:Dsk}{st:List Stp}{c:Int}(h:BC d=true) (h1:0≤c) (h2:BC (toD d st c)=true):Ak d st c=toD d st c:=XO h AB h2
section
variable {d:Dsk}
theorem Wh (h:DD d):DD (CM d):=by
 unfold CM
 split
 ·exact h.tidy
 ·exact US
theorem Wi (h:BC d=true):BC (CM d)=true:=by
 rw [LJ h]
 exact Ct.2 (Ct.1 h).tidy.1
theorem Wj (h:BC d=true):Ck (CM d)=Ck d:=by
 rw [LI h,LI (Wi h),LJ h]
 exact (Ct.1 h).tidy.2
end
theorem ZS {d:Dsk}{s:Sto}(hs:SD s) (h:¬ ((Af d s).length:Int)=0){c:Int}(hc:0≤c):Ak d (Af d s) c=toD d (BB d s) c∧BC (Ak d (Af d s) c)=true:=by
 obtain ⟨q,e⟩:=FlD.of hs h
 have o:=Ct.2 (q.to c).1
 rw [e,Um (Ct.2 q.v) hc o]
 exact ⟨rfl,o⟩
theorem Ke {s:Sto}(h:SD s) (hk:Aa s=true){k:Nat}(hl:k+2≤s.parts.length):By (CV s k) [] 0 99=By s [] 0 99 :=
 MB (x:=CV s k) (s:=s) rfl (hk.trans (GP h hk hl).symm) (fun _ id a b=>(Ez (StoK.of h hk) hl a (by have:=h.nm.len; omega)).2) _ _
section
variable {d:Dsk} {i:Int}
theorem ZT (hd:DD d) (h:¬ ((Ag d i).length:Int)=0){c:Int}(hc:0≤c):Ak d (Ag d i) c=toD d (Al d i.toNat) c∧BC (Ak d (Ag d i) c)=true:=by
 obtain ⟨x,y,q,e,_⟩:=MgD.of hd h
 have o:=Ct.2 (q.to c).1
 rw [e,Um (Ct.2 q.v) hc o]
 exact ⟨rfl,o⟩
end
end Go.Proofs.YtfninflnngpchaaGreatDoor
namespace Go.Proofs.YtfninflnngpchaaGreatDoor
structure WV (w:Wld):Prop where
 wd:WD w
 v:DskV w.disk
 k:Aa w.store=true
 p:w.store.parts=w.disk.list.map (Ay w.disk)
 m:w.disk.names=w.store.idx.names.take w.disk.names.length
 tf:∀ f∈w.disk.files,f.num∈w.disk.list
theorem WV.sd {w:Wld}(h:WV w):SD w.store:=h.wd.sd
theorem WV.dd {w:Wld}(h:WV w):DD w.disk:=h.wd.dd
theorem WV.dk {w:Wld}(h:WV w):BC w.disk=true:=Ct.2 h.v
theorem WV.nb {w:Wld}(h:WV w):nmB w.store.idx.names=true:=EN.2 h.wd.wi.sto.nm
theorem WV.fits {w:Wld}(h:WV w):Cr w.disk w.store=true:=(PS h.dk (by rw [h.nb,h.k]; rfl) h.p h.m).symm
def Ee:Wld:=⟨⟨⟨[],[]⟩,[],[]⟩,⟨[],[],[],1⟩⟩
theorem WV.new:WV Ee:=⟨WD.new,⟨by simp [Ee],by simp [Ee],by simp [Ee],by simp [Ee],by simp [Ee],by simp [Ee],by simp [Ee],by decide,by decide⟩,by decide,rfl,rfl,by simp [Ee]⟩
theorem H0 {w:Wld}(hd:DD w.disk) (hv:DskV w.disk):BA w=⟨Ar w.disk,BN w.disk⟩:=by
 obtain ⟨v,e⟩:=hv.tidy
 have hk:=Ct.2 v
 have e1:=hd.tidy.XL hk
 have e2:=(hd.tidy.sd hk).copy
 unfold BA
 rw [e1,e2,e]
theorem Qb {d e:Dsk}(h:Ar d=Ar e):d.list.map (Ay d)=e.list.map (Ay e):=congrArg Sto.parts h
theorem WV.Qc {s:Sto}{d:Dsk}(hd:DD d) (hv:DskV d) (hw:WD (BA ⟨s,d⟩)):WV (BA ⟨s,d⟩):=by
 have e:=H0 (w:=⟨s,d⟩) hd hv
 rw [e] at hw ⊢
 obtain ⟨v,eo⟩:=hv.tidy
 refine ⟨hw,v,hv.so,(Qb eo).symm,?_,fun f hf=>?_⟩
 ·show d.names=d.names.take d.names.length
  rw [List.take_length]
 ·have:=(List.mem_filter.1 hf).2
  show f.num∈d.list
  simpa using this
theorem Un (x:Idx) (n:List Tag):∃ l,(BV x n).1.names=x.names++l:=by
 unfold BV
 split
 ·exact ⟨[],by simp⟩
 ·split
  ·exact ⟨[],by simp⟩
  ·exact ⟨[n],rfl⟩
theorem Uo {α:Type}{a l m:List α}(h:a=l.take a.length):a=(l++m).take a.length:=by
 have hl:a.length≤l.length:=by
  have:=congrArg List.length h
  rw [List.length_take] at this
  omega
 rw [List.take_append_of_le_length hl]
 exact h
theorem WV.add {w:Wld}(h:WV w){n:List Tag}{r:Row}(hw:WD ⟨(CI w.store n r).1,w.disk⟩):WV ⟨(CI w.store n r).1,w.disk⟩:=by
 cases hb:(CI w.store n r).2 with
 | false =>
   have e:(CI w.store n r).1=w.store:=by
    unfold CI at hb ⊢
    split at hb
    ·rename_i hc; rw [if_pos hc]
    ·rename_i hc
     rw [if_neg hc]
     split at hb
     ·rename_i hc2; rw [if_pos hc2]
     ·cases hb
   rw [e] at hw ⊢
   exact h
 | true =>
   obtain ⟨a1,a2,a3,a4,e⟩:=RN hb
   rw [e] at hw ⊢
   obtain ⟨l,hl⟩:=Un w.store.idx n
   refine ⟨hw,h.v,WL h.sd h.k a1 a2 a3 a4,h.p,?_,h.tf⟩
   show w.disk.names=(BV w.store.idx n).1.names.take w.disk.names.length
   rw [hl]
   exact Uo h.m
theorem Ii {d:Dsk}{s:Sto}(q:FlD d s){c:Int}(hc:¬ c< 2):BB d s=[⟨1,d.next,Ai s.mem,[],[]⟩,⟨2,0,⟨[],[]⟩,d.list++[d.next],s.idx.names⟩]∧toD d (BB d s) c=⟨d.files++[⟨d.next,Ai s.mem⟩],d.list++[d.next],s.idx.names,d.next+1⟩:=by
 have e:=DT (d:=d) (s:=s) (by have:=q.m; rw [← List.length_pos_iff] at this; omega) (by have:=q.l; omega) (by have:=q.n; omega) (by have:=q.f; omega)
 refine ⟨e,?_⟩
 rw [e,DA AB,FP rfl,DA AB,HN rfl,LK]
theorem HY {d:Dsk}{s:Sto}(q:FlD d s):((BB d s).length:Int)=2:=by rw [(Ii q (c:=2) AB).1]; rfl
theorem HZ {s:Sto}(h:SD s) (hk:Aa s=true) (hm:s.mem≠[]) (hl:s.parts.length< 6):(BI s).1=Cz s∧(Bm s).1=Cz s:=by
 rw [← List.length_pos_iff] at hm
 have f1:=JF h hk AB AB
 have f2:(Bm s).2=true:=by rw [f1]
 have f3:=(Sd h f2).1
 refine ⟨?_,f3⟩
 have f4:Bm s=BI s:=by rw [Ie hk,h.copy]
 rw [← f4]
 exact f3
theorem WV.fl {w:Wld}(h:WV w) (hn:BB w.disk w.store≠[]):FlD w.disk w.store:=by
 by_cases hc:w.store.mem.length=0∨w.disk.list.length≥6∨w.disk.next≥999∨w.disk.files.length≥20
 ·exact absurd (by unfold BB; rw [if_pos hc]) hn
 ·exact ⟨h.v,h.sd,h.k,h.nb,h.p,fun e=>hc (.inl (by rw [e]; rfl)),by omega,by omega,by omega⟩
theorem FlD.parts {d:Dsk}{s:Sto}(q:FlD d s):s.parts.length< 6:=by rw [q.p,List.length_map]; exact q.l
theorem WV.Wk {w:Wld}(h:WV w) (q:FlD w.disk w.store){c:Int}(hc:¬ c< 2) (hw:WD ⟨Cz w.store,toD w.disk (BB w.disk w.store) c⟩):WV ⟨Cz w.store,toD w.disk (BB w.disk w.store) c⟩:=by
 obtain ⟨v,o⟩:=q.to c
 rw [if_neg hc] at o
 have e:=(Ii q hc).2
 refine ⟨hw,v,JE q.sd q.k q.m q.parts,?_,?_,fun f hf=>?_⟩
 ·exact (congrArg Sto.parts o).symm
 ·have:(toD w.disk (BB w.disk w.store) c).names=w.store.idx.names:=congrArg (fun s=>s.idx.names) o
  show (toD w.disk (BB w.disk w.store) c).names=w.store.idx.names.take (toD w.disk (BB w.disk w.store) c).names.length
  rw [this,List.take_length]
 ·have hf2:f∈(toD w.disk (BB w.disk w.store) c).files:=hf
  show f.num∈(toD w.disk (BB w.disk w.store) c).list
  rw [e] at hf2 ⊢
  rcases List.mem_append.1 hf2 with hf2 | hf2
  ·exact List.mem_append.2 (.inl (h.tf f hf2))
  ·simp at hf2
   subst hf2
   simp
theorem Rc {fs:List Fil}(h:fs.Pairwise (fun a b=>a.num< b.num)){i j:Nat}{a b:Fil}(ha:fs[i]? = some a) (hb:fs[j]? = some b) (e:a.num=b.num):i=j:=by
 rw [List.pairwise_iff_getElem] at h
 obtain ⟨h1,h2⟩:=List.getElem?_eq_some_iff.1 ha
 obtain ⟨h3,h4⟩:=List.getElem?_eq_some_iff.1 hb
 rcases Nat.lt_trichotomy i j with hij | hij | hij
 ·have:=h i j h1 h3 hij; rw [h2,h4] at this; omega
 ·exact hij
 ·have:=h j i h3 h1 hij; rw [h2,h4] at this; omega
theorem Rd {d:Dsk}(h:DskV d){n:Int}(hn:n∉d.list){f:Fil}(hf:f∈D8 d n):f.num≠n:=fun e=>by
 have hm:=HX f hf
 have h1:0≤At d n:=(FQ d n).2 ⟨f,hm,e⟩
 have h3:d.list.contains n=false:=by
  cases hc:d.list.contains n with
  | false=>rfl
  | true=>exact absurd (List.contains_iff_mem.1 hc) hn
 rw [QB h1 h3] at hf
 obtain ⟨y,hy1,hy2,_⟩:=(fun hh=>RZ d.files n 0 hh) h1
 have hy1':d.files[(At d n).toNat]? = some y:=hy1
 rcases List.mem_append.1 hf with hf | hf
 ·obtain ⟨j,hj⟩:=List.mem_iff_getElem?.1 hf
  rw [List.getElem?_take] at hj
  split at hj
  ·have:=Rc h.asc hj hy1' (e.trans hy2.symm); omega
  ·cases hj
 ·obtain ⟨j,hj⟩:=List.mem_iff_getElem?.1 hf
  rw [List.getElem?_drop] at hj
  have:=Rc h.asc hj hy1' (e.trans hy2.symm)
  omega
theorem WV.mg {w:Wld}(h:WV w){i:Int}(hn:Al w.disk i≠[]):∃ x y,MgD w.disk i.toNat x y∧i=(i.toNat:Int)∧Al w.disk i=Al w.disk i.toNat∧Ag w.disk i=Al w.disk i:=by
 have e:=ET (a:=i) h.dk
 have h0:¬ ((Ag w.disk i).length:Int)=0:=by
  rw [e]
  intro h0
  exact hn (List.length_eq_zero_iff.1 AB)
 obtain ⟨x,y,q,e2,i0⟩:=MgD.of h.dd h0
 exact ⟨x,y,q,i0,by rw [← e,e2],e⟩
theorem ME {s:Sto}{a:Nat}(hl:a+2≤s.parts.length):BH s (a:Int)=(CV s a,true):=by
 unfold BH CV
 rw [if_pos (by unfold inR; simp; omega)]
 simp
theorem MF {d:Dsk}{a:Nat}{x y:Int}(q:MgD d a x y){c:Int}(hc:¬ c< 4):toD d (Al d a) c=⟨D8 ⟨D8 (mgD d a x y) x,(mgD d a x y).list,(mgD d a x y).names,(mgD d a x y).next⟩ y,(mgD d a x y).list,(mgD d a x y).names,(mgD d a x y).next⟩:=by
 have e2:doD (⟨d.files++[⟨d.next,BF (Ay d x) (Ay d y)⟩],d.list,d.names,d.next+1⟩:Dsk) ⟨2,0,⟨[],[]⟩,d.list.take a++[d.next]++d.list.drop (a+2),d.names⟩=mgD d a x y:=HN rfl
 rw [q.e,DA AB,FP rfl,DA AB,e2,DA AB,Fm rfl,DA AB,Fm rfl,LK]
theorem Ha {d:Dsk}{a:Nat}{x y:Int}(q:MgD d a x y):((Al d a).length:Int)=4:=by rw [q.e]; rfl
theorem WV.open {w:Wld}(h:WV w):(Ar w.disk).parts=w.store.parts:=h.p.symm
theorem WV.Wl {w:Wld}(h:WV w){a:Nat}{x y:Int}(q:MgD w.disk a x y){c:Int}(hc:¬ c< 4) (hw:WD ⟨CV w.store a,toD w.disk (Al w.disk a) c⟩):WV ⟨CV w.store a,toD w.disk (Al w.disk a) c⟩:=by
 obtain ⟨v,o⟩:=q.to c
 rw [if_neg AB] at o
 have e:=MF q hc
 have hl:a+2≤w.store.parts.length:=by rw [← h.open,q.open.2.2]; exact q.l
 refine ⟨hw,v,GP h.sd h.k hl,?_,?_,fun f hf=>?_⟩
 ·have:=congrArg Sto.parts o
  have e3:(CV (Ar w.disk) a).parts=(CV w.store a).parts:=by show Gi (Ar w.disk).parts a=Gi w.store.parts a; rw [h.open]
  rw [e3] at this
  exact this.symm
 ·have:(toD w.disk (Al w.disk a) c).names=w.disk.names:=congrArg (fun s=>s.idx.names) o
  show (toD w.disk (Al w.disk a) c).names=w.store.idx.names.take (toD w.disk (Al w.disk a) c).names.length
  rw [this]
  exact h.m
 ·have hf2:f∈(toD w.disk (Al w.disk a) c).files:=hf
  show f.num∈(toD w.disk (Al w.disk a) c).list
  rw [e] at hf2 ⊢
  obtain ⟨v2,_⟩:=q.v2
  obtain ⟨v3,_⟩:=v2.gone x
  have hnd:=q.v.nd
  rw [q.list] at hnd
  rw [List.nodup_append,List.nodup_cons,List.nodup_cons] at hnd
  have mx:x∉(mgD w.disk a x y).list:=fun hm=>by
   rcases q.mem x hm with hm | hm
   ·exact hm.2.1 rfl
   ·have:=q.v.lt x (AV q.hx); omega
  have my:y∉(mgD w.disk a x y).list:=fun hm=>by
   rcases q.mem y hm with hm | hm
   ·exact hm.2.2 rfl
   ·have:=q.v.lt y (AV q.hy); omega
  have ny:=Rd v3 my hf2
  have hf3:=HX f hf2
  have nx:=Rd v2 mx hf3
  have hf4:=HX f hf3
  rcases List.mem_append.1 hf4 with hf5 | hf5
  ·have hm:=h.tf f hf5
   rw [q.list] at hm
   show f.num∈w.disk.list.take a++[w.disk.next]++w.disk.list.drop (a+2)
   simp only [List.mem_append,List.mem_cons,List.not_mem_nil,or_false] at hm ⊢
   rcases hm with hm | hm | hm | hm
   ·exact .inl (.inl hm)
   ·exact absurd hm nx
   ·exact absurd hm ny
   ·exact .inr hm
  ·simp at hf5
   subst hf5
   show w.disk.next∈w.disk.list.take a++[w.disk.next]++w.disk.list.drop (a+2)
   simp
theorem PW {w:Wld}(h:WV w) (q:FlD w.disk w.store) (c:Int):DD (toD w.disk (BB w.disk w.store) c):=by
 have e:Af w.disk w.store=BB w.disk w.store:=FX h.fits
 have:=(KE h.dd h.sd).1
 rw [e] at this
 exact this.ok c.toNat
theorem MG {w:Wld}(h:WV w) (i:Int) (c:Int):DD (toD w.disk (Al w.disk i) c):=by
 have:=(KF h.dd i).1
 rw [ET h.dk] at this
 exact this.ok c.toNat
theorem WV.do {w:Wld}(h:WV w){e:Evt}(he:NmD e.name):WV (doW w e):=by
 have hw:=h.wd.do he
 by_cases k1:e.kind=1
 ·cases hn:Ao e.name with
  | false=>rw [IW k1 hn]; exact h
  | true=>rw [KW k1 hn] at hw ⊢; exact h.add hw
 ·by_cases k2:e.kind=2
  ·rw [I4 k2] at hw ⊢
   by_cases hs:((BB w.disk w.store).length:Int)=0∨e.cut< 0
   ·rw [DV hs]; exact h
   ·have q:=h.fl (fun e0=>hs (.inl (by rw [e0]; rfl)))
    by_cases hc:e.cut< (BB w.disk w.store).length
    ·rw [Ex (fun e0=>hs (.inl e0)) (fun e0=>hs (.inr e0)) hc] at hw ⊢
     exact WV.Qc (PW h q _) (q.to _).1 hw
    ·rw [EJ (fun e0=>hs (.inl e0)) (fun e0=>hs (.inr e0)) hc,(HZ h.sd h.k q.m q.parts).1] at hw ⊢
     exact h.Wk q (by rw [HY q] at hc; exact hc) hw
  ·by_cases k3:e.kind=3
   ·rw [HO k3] at hw ⊢
    by_cases hs:((Al w.disk e.at_).length:Int)=0∨e.cut< 0
    ·rw [DV hs]; exact h
    ·obtain ⟨x,y,q,i0,e3,_⟩:=h.mg (i:=e.at_) (fun e0=>hs (.inl (by rw [e0]; rfl)))
     have hl:e.at_.toNat+2≤w.store.parts.length:=by rw [← h.open,q.open.2.2]; exact q.l
     by_cases hc:e.cut< (Al w.disk e.at_).length
     ·rw [Ex (fun e0=>hs (.inl e0)) (fun e0=>hs (.inr e0)) hc] at hw ⊢
      exact WV.Qc (MG h _ _) (by rw [e3]; exact (q.to _).1) hw
     ·have em:(BH w.store e.at_).1=CV w.store e.at_.toNat:=by
       have:=ME hl
       rw [← i0] at this
       rw [this]
      rw [EJ (fun e0=>hs (.inl e0)) (fun e0=>hs (.inr e0)) hc,em,e3] at hw ⊢
      exact h.Wl q (by rw [e3,Ha q] at hc; exact hc) hw
   ·by_cases k4:e.kind=4
    ·rw [M4 k4] at hw ⊢
     exact WV.Qc (s:=w.store) h.dd h.v hw
    ·rw [Ox k1 k2 k3 k4]; exact h
theorem WV.copy {w:Wld}(h:WV w):Q5 w=w:=by
 unfold Q5
 rw [h.sd.copy,h.dd.XL h.dk]
def Cd (es:List Evt):Wld:=es.foldl doW Ee
def EsD (es:List Evt):Prop:=∀ e∈es,EvD e
theorem WV.foldl:∀ (es:List Evt) (w:Wld),WV w→EsD es→WV (es.foldl doW w):=by
 intro es
 induction es with
 | nil=>intro w h _; exact h
 | cons e es ih=>intro w h he; exact ih _ (h.do (he e AD).1) (fun x hx=>he x (by simp [hx]))
theorem WV.YS {es:List Evt}(h:EsD es):WV (Cd es):=WV.foldl es _ WV.new h
theorem EsD.nil:EsD []:=fun e h=>by cases h
theorem EsD.snoc {es:List Evt}{e:Evt}(h:EsD es) (he:EvD e):EsD (es++[e]):=fun x hx=>by
 rcases List.mem_append.1 hx with hx | hx
 ·exact h x hx
 ·simp at hx; subst hx; exact he
section
variable {w:Wld} {e:Evt}
theorem YT (hd:DD w.disk) (hk:BC w.disk=true):BA w=⟨Ck (CM w.disk),CM w.disk⟩:=by
 rw [H0 hd (Ct.1 hk),Wj hk,LI hk,LJ hk]
theorem Z3 (h:e.kind=4):doW w e=BA w:=M4 h
theorem Up (h:WV w) (hn:Ao e.name=true):BX w.store e.name e.row=CI w.store e.name e.row:=by
 unfold BX
 rw [if_pos ⟨h.k,hn⟩,h.sd.copy]
theorem do_1 (h:WV w) (h1:e.kind=1) (h2:(BX w.store e.name e.row).2=true):doW w e=⟨(BX w.store e.name e.row).1,w.disk⟩:=by
 have hn:=(WK h2).2.1
 rw [KW h1 hn,Up h hn]
theorem XQ (h:WV w) (h1:e.kind=1) (h2:(BX w.store e.name e.row).2=false):doW w e=w:=by
 cases hn:Ao e.name with
 | false=>exact IW h1 hn
 | true =>
   rw [KW h1 hn]
   rw [Up h hn] at h2
   have e2:(CI w.store e.name e.row).1=w.store:=by
    unfold CI at h2 ⊢
    split at h2
    ·rename_i hc; rw [if_pos hc]
    ·rename_i hc
     rw [if_neg hc]
     split at h2
     ·rename_i hc2; rw [if_pos hc2]
     ·cases h2
   rw [e2]
theorem XR (h:WV w) (h1:e.kind=2) (h2:((Af w.disk w.store).length:Int)=0∨e.cut< 0):doW w e=w:=by
 rw [I4 h1]
 rw [FX h.fits] at h2
 exact DV h2
theorem OI (h:WV w) (h2:¬ ((Af w.disk w.store).length:Int)=0) (h3:¬ e.cut< 0):Ak w.disk (Af w.disk w.store) e.cut=toD w.disk (BB w.disk w.store) e.cut∧DD (Ak w.disk (Af w.disk w.store) e.cut)∧BC (Ak w.disk (Af w.disk w.store) e.cut)=true:=by
 obtain ⟨e1,o⟩:=ZS h.sd h2 (by omega:0≤e.cut)
 exact ⟨e1,Ul h.dd (fun _=>(KE h.dd h.sd).1),o⟩
theorem ZU (h:WV w) (h1:e.kind=2) (h2:¬ ((Af w.disk w.store).length:Int)=0) (h3:¬ e.cut< 0) (h4:e.cut< (Af w.disk w.store).length):doW w e=BA ⟨w.store,Ak w.disk (Af w.disk w.store) e.cut⟩:=by
 rw [(OI h h2 h3).1,I4 h1]
 rw [FX h.fits] at h2 h4
 exact Ex h2 h3 h4
theorem ZV (h:WV w) (h1:e.kind=2) (h2:¬ ((Af w.disk w.store).length:Int)=0) (h3:¬ e.cut< 0) (h4:¬ e.cut< (Af w.disk w.store).length):doW w e=⟨(Bm w.store).1,Ak w.disk (Af w.disk w.store) e.cut⟩:=by
 rw [(OI h h2 h3).1,I4 h1]
 have h20:=h2
 rw [FX h.fits] at h2 h4
 have q:=h.fl (fun e0=>h2 (by rw [e0]; rfl))
 rw [EJ h2 h3 h4,(HZ h.sd h.k q.m q.parts).1,(HZ h.sd h.k q.m q.parts).2]
theorem XS (h:WV w) (h1:e.kind=3) (h2:((Ag w.disk e.at_).length:Int)=0∨e.cut< 0):doW w e=w:=by
 rw [HO h1]
 rw [ET h.dk] at h2
 exact DV h2
theorem OJ (h:WV w) (h2:¬ ((Ag w.disk e.at_).length:Int)=0) (h3:¬ e.cut< 0):Ak w.disk (Ag w.disk e.at_) e.cut=toD w.disk (Al w.disk e.at_) e.cut∧DD (Ak w.disk (Ag w.disk e.at_) e.cut)∧BC (Ak w.disk (Ag w.disk e.at_) e.cut)=true:=by
 obtain ⟨e1,o⟩:=ZT h.dd h2 (by omega:0≤e.cut)
 obtain ⟨x,y,q,e2,i0⟩:=MgD.of h.dd h2
 refine ⟨?_,Ul h.dd (fun _=>(KF h.dd _).1),o⟩
 rw [e1,← e2,ET h.dk]
theorem ZW (h:WV w) (h1:e.kind=3) (h2:¬ ((Ag w.disk e.at_).length:Int)=0) (h3:¬ e.cut< 0) (h4:e.cut< (Ag w.disk e.at_).length):doW w e=BA ⟨w.store,Ak w.disk (Ag w.disk e.at_) e.cut⟩:=by
 rw [(OJ h h2 h3).1,HO h1]
 rw [ET h.dk] at h2 h4
 exact Ex h2 h3 h4
theorem ZX (h:WV w) (h1:e.kind=3) (h2:¬ ((Ag w.disk e.at_).length:Int)=0) (h3:¬ e.cut< 0) (h4:¬ e.cut< (Ag w.disk e.at_).length):doW w e=⟨(BR w.store e.at_).1,Ak w.disk (Ag w.disk e.at_) e.cut⟩:=by
 rw [(OJ h h2 h3).1,HO h1]
 rw [ET h.dk] at h2 h4
 have em:BR w.store e.at_=BH w.store e.at_:=by rw [Gq h.k,h.sd.copy]
 rw [EJ h2 h3 h4,em]
end
end Go.Proofs.YtfninflnngpchaaGreatDoor
