/- What asking computes, as plain functions, and its laws. -/
import Derived.Test.YtcginoabkicdiaaGreatDzzMod40
import Derived.Test.YtcginoabkicdiaaGreatDzzMod90
import Derived.Shelf.Lays
import Derived.Shelf.Strings.OnBuilder
open Go.Proofs.Tryz
set_option linter.unusedVariables false
set_option linter.unusedSimpArgs false
namespace Go.Proofs.YtcginoabkicdiaaGreat
section
variable {P:Program} {f:FuncId} {fn:Func} {R:Value→World→Prop} {c:Code} {e:Env} {w:World}
theorem Zh (f:ResultVar→Sem Value) (r r' r2 r3:ResultVar):(#[r,r',r2,r3]).mapM f=(do let v ← f r; let v' ← f r'; let v2 ← f r2; let v3 ← f r3; pure #[v,v',v2,v3]):=by
 simp
theorem Oi {a:Act}{r r' r'' r''':ResultVar}{v v' v'' v''':Value}(hs:Sees fn.ntmps a e) (hr:fn.results = #[r,r',r'',r''']) (h:CK P w e r v) (h':CK P w e r' v') (h'':CK P w e r'' v'') (h3:CK P w e r''' v''') :
 (results fn a.tmps).run P w=.ok (.tuple #[v,v',v'',v''']) w:=by
 rw [GR,hr,Zh]
 refine AZ (a:=#[v,v',v'',v''']) ?_
 rw [AZ (h.run hs),AZ (h'.run hs),AZ (h''.run hs),AZ (h3.run hs)]
 rfl
theorem T.pO {k}{r r' r'' r''':ResultVar}{v v' v'' v''':Value}(h:Fb c=true) (hf:P.funcs[f]? = some fn) (hres:fn.results = #[r,r',r'',r''']) (h1:CK P w e r v) (h2:CK P w e r' v') (h3:CK P w e r'' v'') (h4:CK P w e r''' v''')
 (hR:R (.tuple #[v,v',v'',v''']) w):T P f fn R (.code c::k) e w :=
 T.Ov h (fun _ hs=>Oi hs hres h1 h2 h3 h4) hf hR
theorem T.r4 {k}{r r' r'' r''':ResultVar}{v v' v'' v''':Value}(hf:P.funcs[f]? = some fn) (hres:fn.results = #[r,r',r'',r''']) (h1:CK P w e r v) (h2:CK P w e r' v') (h3:CK P w e r'' v'') (h4:CK P w e r''' v''') (hR:R (.tuple #[v,v',v'',v''']) w) (h:Fb c=true:=by kernel_rfl):T P f fn R (.code c::k) e w :=
 T.pO h hf hres h1 h2 h3 h4 hR
end
def fits (f:List Cnd) (n:List Tag):Bool:=f.all (fun c=>has n c.tag != c.no)
end Go.Proofs.YtcginoabkicdiaaGreat
namespace Go.Proofs.YtcginoabkicdiaaGreat
theorem HZ {b:List Row}(h:Ax b=true):Blk b:=by
 unfold Ax at h
 simp only [AW] at h
 exact h.1
def Bu (a b:List Row):List Row × Bool:=if Ax a=true∧Ax b=true∧¬ ((Bg a b).length:Int) > 24 then (Bg a b,true) else ([],false)
theorem LS {a b:List Row}(h:Ax a=false∨Ax b=false):Bu a b=([],false):=by
 unfold Bu
 rw [if_neg]
 rintro ⟨h1,h2,_⟩
 rcases h with h | h
 ·rw [h] at h1; cases h1
 ·rw [h] at h2; cases h2
theorem Rp {a b out:List Row}(e:out=Bg a b) (_ha:Ax a=true) (_hb:Ax b=true) (h:(out.length:Int) > 24):[]=(Bu a b).1∧false=(Bu a b).2:=by
 subst e
 unfold Bu
 rw [if_neg (fun q=>q.2.2 h)]
 exact ⟨rfl,rfl⟩
theorem Rq {a b out:List Row}(e:out=Bg a b) (ha:Ax a=true) (hb:Ax b=true) (h:¬ (out.length:Int) > 24):out=(Bu a b).1∧true=(Bu a b).2:=by
 subst e
 unfold Bu
 rw [if_pos ⟨ha,hb,h⟩]
 exact ⟨rfl,rfl⟩
theorem UJ {a b:List Row}(h:(Bu a b).2=true):(Bu a b).1=Bg a b:=by
 unfold Bu at h ⊢
 split at h
 ·rename_i h1; rw [if_pos h1]
 ·cases h
def okM (a b:Prt) (n:Nat):Bool:=(List.range n).all (fun i=>(Bu (BA a ((i:Int)+1)) (BA b ((i:Int)+1))).2)
theorem UK (a b:Prt) (n:Nat):okM a b (n+1)=(okM a b n&&(Bu (BA a ((n:Int)+1)) (BA b ((n:Int)+1))).2):=by simp [okM,List.range_succ]
def BW (a b:Prt):Prt × Bool:=if Ai a=true∧Ai b=true∧okM a b 6=true then (BB a b,true) else (⟨[],[]⟩,false)
theorem LU {a b:Prt}(h:Ai a=false∨Ai b=false):BW a b=(⟨[],[]⟩,false):=by
 unfold BW
 rw [if_neg]
 rintro ⟨h1,h2,_⟩
 rcases h with h | h
 ·rw [h] at h1; cases h1
 ·rw [h] at h2; cases h2
theorem Rr {a b:Prt}{k:Nat}(h1:1≤k) (h2:k≤6) (h:(Bu (BA a (k:Int)) (BA b (k:Int))).2=false):BW a b=(⟨[],[]⟩,false):=by
 unfold BW
 rw [if_neg]
 rintro ⟨_,_,h3⟩
 unfold okM at h3
 rw [List.all_eq_true] at h3
 have:=h3 (k - 1) (by simp; omega)
 rw [show ((k - 1:Nat):Int)+1=(k:Int) by omega,h] at this
 cases this
theorem Pl {a b:Prt}{k:Nat}(h:okM a b (k - 1)=true) (h1:1≤k) (h2:(Bu (BA a (k:Int)) (BA b (k:Int))).2=true):okM a b (k+1 - 1)=true:=by
 rw [show k+1 - 1=(k - 1)+1 by omega,UK,h,show ((k - 1:Nat):Int)+1=(k:Int) by omega,h2]
 rfl
theorem Rs {a b:Prt}(ha:Ai a=true) (hb:Ai b=true){k:Nat}(hk:1≤k) (h:(Bu (BA a (k:Int)) (BA b (k:Int))).2=true):BX a b (k+1 - 1)=BX a b (k - 1)++[(Bu (BA a (k:Int)) (BA b (k:Int))).1]:=by
 have ea:BA a (k:Int)=partOf a (k:Int):=by unfold BA; rw [if_pos ha]
 have eb:BA b (k:Int)=partOf b (k:Int):=by unfold BA; rw [if_pos hb]
 rw [show k+1 - 1=(k - 1)+1 by omega,I3,show ((k - 1:Nat):Int)+1=(k:Int) by omega,UJ h,ea,eb]
section
variable {a b:Prt} {k:Nat}
theorem WZ {o:List Int}(ha:Ai a=true) (hb:Ai b=true) (hk:1≤k) (h:(Bu (BA a (k:Int)) (BA b (k:Int))).2=true) (e:o=(BN 0 (BX a b (k - 1))).1) (hl:((Bu (BA a (k:Int)) (BA b (k:Int))).1.length:Int) > 0):o++[(k:Int)]=(BN 0 (BX a b (k+1 - 1))).1:=by
 rw [Rs ha hb hk h,DN,if_pos AB,e,D1,show ((0:Nat):Int)+((k - 1:Nat):Int)+1=(k:Int) by omega]
theorem Wa {o:List Int}(ha:Ai a=true) (hb:Ai b=true) (hk:1≤k) (h:(Bu (BA a (k:Int)) (BA b (k:Int))).2=true) (e:o=(BN 0 (BX a b (k - 1))).1) (hl:¬ ((Bu (BA a (k:Int)) (BA b (k:Int))).1.length:Int) > 0):o=(BN 0 (BX a b (k+1 - 1))).1:=by
 rw [Rs ha hb hk h,DN,if_neg AB,e]
theorem Wb {o:List (List Row)}(ha:Ai a=true) (hb:Ai b=true) (hk:1≤k) (h:(Bu (BA a (k:Int)) (BA b (k:Int))).2=true) (e:o=(BN 0 (BX a b (k - 1))).2) (hl:((Bu (BA a (k:Int)) (BA b (k:Int))).1.length:Int) > 0):o++[(Bu (BA a (k:Int)) (BA b (k:Int))).1]=(BN 0 (BX a b (k+1 - 1))).2:=by
 rw [Rs ha hb hk h,DN,if_pos AB,e]
theorem Wc {o:List (List Row)}(ha:Ai a=true) (hb:Ai b=true) (hk:1≤k) (h:(Bu (BA a (k:Int)) (BA b (k:Int))).2=true) (e:o=(BN 0 (BX a b (k - 1))).2) (hl:¬ ((Bu (BA a (k:Int)) (BA b (k:Int))).1.length:Int) > 0):o=(BN 0 (BX a b (k+1 - 1))).2:=by
 rw [Rs ha hb hk h,DN,if_neg AB,e]
theorem Ru {x:List Int}{y:List (List Row)}(hk:k=7) (ha:Ai a=true) (hb:Ai b=true) (e1:x=(BN 0 (BX a b (k - 1))).1) (e2:y=(BN 0 (BX a b (k - 1))).2) (h:okM a b (k - 1)=true):(⟨x,y⟩:Prt)=(BW a b).1∧true=(BW a b).2:=by
 subst hk e1 e2
 unfold BW
 rw [if_pos ⟨ha,hb,h⟩]
 exact ⟨rfl,rfl⟩
end
theorem Ns {p:Prt}(h:CR p) (id:Int):(BA p id).length≤1000:=by
 unfold BA
 split
 ·exact Cd h id
 ·simp
def Dx (s:Sto) (at_:Int):Sto × Bool:=if Ae s then BI (AY s) at_ else (⟨⟨[],[]⟩,[],[]⟩,false)
theorem Nt {s:Sto}{i:Int}(h:Ae s=false):Dx s i=(⟨⟨[],[]⟩,[],[]⟩,false):=by unfold Dx; rw [if_neg (by simp [h])]
theorem Ir {s:Sto}{i:Int}(h:Ae s=true):Dx s i=BI (AY s) i:=by unfold Dx; rw [if_pos h]
end Go.Proofs.YtcginoabkicdiaaGreat
namespace Go.Proofs.YtcginoabkicdiaaGreat
set_option maxRecDepth 100000
set_option maxHeartbeats 4000000
variable {w:World} {F:Nat→Prop} {a1 a2 a3 a4:Option Addr} {n1 c1 n2 c2 n3 c3 n4 c4:Nat}
theorem JN (a:List Row) (b:List Row) (h1:RepS w F a1 n1 c1 a) (h2:RepS w F a2 n2 c2 b) (p0:a.length≤1000) (p1:b.length≤1000):Calls Tryz.prog 183 [.slice a1 n1 c1,.slice a2 n2 c2].toArray w (Af fun rv w'=>(∃ v0,rv=.tuple #[v0,.bool ((Bu a b).2)]∧VA w.heap.size w' ((Bu a b).1:List Row) v0)∧Ext w w'):=by
 cases h1.len
 cases h2.len
 refine goT func183 ?_
 have Z:=((St.i0 F w).p h1).p h2
 have Z:=Z.s0 0
 refine .s<|.g<|.r 2<|.d<|.s<|.s<|.g<|.r 1<|RG.C0 (EF a (Z.a 2)) Z fun w Z=>?_
 cases ay:(Ax a)
 ·refine .r 6<|.d<|.ct<|.s<|.g<|RG.N0 Row 0 Z fun aj w Z=>.r 2<|.d ?_
  have Z:=Z.fL 0 0 0 ([]:List Row)
  exact T.r2 func183 results183 (.T _) (.t (.bool false)) ⟨⟨_,(DG rfl (AG (by exact (congrArg Prod.snd (LS (.inl ‹_›))).symm))),Z.rA 1 [0] ([]:List Row) (some ⟨aj,0,none⟩) 0 (by exact (congrArg Prod.fst (LS (.inl ‹_›))).symm)⟩,Z.xt⟩
 refine .r 3<|RG.C0 (EF b (Z.a 1)) Z fun w Z=>?_
 cases az:(Ax b)
 ·refine .r 2<|.d<|.ct<|.s<|.g<|RG.N0 Row 0 Z fun ak w Z=>.r 2<|.d ?_
  have Z:=Z.fL 0 0 0 ([]:List Row)
  exact T.r2 func183 results183 (.T _) (.t (.bool false)) ⟨⟨_,(DG rfl (AG (by exact (congrArg Prod.snd (LS (.inr ‹_›))).symm))),Z.rA 1 [0] ([]:List Row) (some ⟨ak,0,none⟩) 0 (by exact (congrArg Prod.fst (LS (.inr ‹_›))).symm)⟩,Z.xt⟩
 refine .r 2<|.d<|.cf<|.sk<|.s<|.g<|RG.N0 Row 0 Z fun aE w Z=>.r 1<|RG.An (hf:=.inr Bn) 0 2 ([]:List Row) a Z fun am ao w Z=>.r 1<|.d<|.s<|.s<|.g<|.r 3<|.d<|.b 0 ?_
 have Z:=Z.fL 0 0 0 ([]++a)
 refine T.Lp ((([]++a):List Row),sA am,ao,(0:Nat)) (fun (out,a_out,c_out,k)=>([(6,.slice a_out out.length c_out),(21,.slice a2 b.length c2),(22,vI (b.length:Int)),(23,vI (k:Int))],[],[⟨0,none,.sep [.s a_out c_out out]⟩,⟨0,none,.rep a_out c_out out⟩],b.length - k,(k≤b.length)∧(Blk out)∧((b.drop k).foldl EU out=Bg a b))) [1,0] Z ⟨AB,(by exact HZ ‹_›),AF⟩ ?_
 rintro ⟨out,a_out,c_out,k⟩ aF w Z ⟨aA,aB,aC⟩ ab
 refine .s<|.g<|.bp ((k:Int)< (b.length:Int)) (fun ae=>?_) (fun ae=>?_)
 ·refine .d<|.s<|.ct<|.sk<|.s<|.b 1<|.s<|.g<|gx b k fun ac aa=>?_
  have aD:=Ab aa; have ai:=AV aa
  refine RG.Ix 5 aa Z<|Z.el 5 aa fun Z=>RG.Lg 0 0 Z<|RG.Np Z fun aG w Z=>RG.Ss 0 Z fun w Z=>.d<|.g<|.r 1<|RG.Ln 0 Z<|RG.DA 1 0 (Im out ac (Z.a 2) (by have:=Blk.len (by assumption:Blk out); omega)) Z fun af ag w Z=>.r 1<|.d<|.ib 1<|.g<|.it ((k:Int)+1)<|.r 1<|.d ?_
  have Z:=Z.sM 0 0 [0] [.s af ag (C4 ac out)]
  exact ab (C4 ac out,af,ag,k+1) _ _ AA (Z.to 1 [0,2] 6) ⟨AB,(by exact Blk.ins ‹_› ((HZ (by assumption:Ax b=true)).rows _ ‹_›)),(by rw [← F9 ‹_›]; exact EK ‹_› ‹_›)⟩ (by (simp only []; omega))
 refine .d<|.s<|.cf<|.x 0 rfl<|.s<|.s<|.g<|.r 2<|.bp ((out.length:Int) > 24) (fun ah=>?_) (fun ah=>.d<|.cf<|.sk<|.s<|.g<|.r 3<|.d<|T.r2 func183 results183 (.T _) (.t (.bool true)) ⟨⟨_,(DG rfl (AG (by exact (Rq (out:=out) (E8 ‹_› AB) ‹_› ‹_› AB).2))),Z.rA 0 [0] out a_out c_out (by exact (Rq (out:=out) (E8 ‹_› AB) ‹_› ‹_› AB).1)⟩,Z.xt⟩)
 refine .d<|.ct<|.s<|.g<|RG.N0 Row 0 Z fun aq w Z=>.r 2<|.d ?_
 have Z:=Z.fL 0 0 0 ([]:List Row)
 exact T.r2 func183 results183 (.T _) (.t (.bool false)) ⟨⟨_,(DG rfl (AG (by exact (Rp (out:=out) (E8 ‹_› AB) ‹_› ‹_› AB).2))),Z.rA 1 [0] ([]:List Row) (some ⟨aq,0,none⟩) 0 (by exact (Rp (out:=out) (E8 ‹_› AB) ‹_› ‹_› AB).1)⟩,Z.xt⟩
theorem GJ (a:Prt) (b:Prt) (h1:RepS w F a1 n1 c1 a.ids) (h2:RepS w F a2 n2 c2 a.blocks) (h3:RepS w F a3 n3 c3 b.ids) (h4:RepS w F a4 n4 c4 b.blocks) (p0:CR a) (p1:CR b):Calls Tryz.prog 130 [.agg #[.slice a1 n1 c1,.slice a2 n2 c2],.agg #[.slice a3 n3 c3,.slice a4 n4 c4]].toArray w (Af fun rv w'=>(∃ v0,rv=.tuple #[v0,.bool ((BW a b).2)]∧VD w.heap.size w' ((BW a b).1:Prt) v0)∧Ext w w'):=by
 cases h1.len
 cases h2.len
 cases h3.len
 cases h4.len
 refine goT func130 ?_
 have Z:=((((St.i0 F w).p h1).p h2).p h3).p h4
 have Z:=Z.s0 0
 refine .s<|.g<|RG.Np Z fun aj w Z=>RG.Np Z fun ak w Z=>RG.Np Z fun am w Z=>.r 1<|.d<|.s<|.s<|.g<|RG.Ln 2 Z<|RG.C0 (C6 a (Z.a 4) (Z.a 3)) Z fun w Z=>?_
 cases aE:(Ai a)
 ·refine .r 6<|.d<|.ct<|.s<|.g<|.r 1<|RG.Ss 0 Z fun w Z=>.r 1<|.d ?_
  have Z:=(Z.sZ Int 0 0).sZ (List Row) 1 0
  exact T.r2 func130 results130 (.B 0 Z) (.t (.bool false)) ⟨⟨_,(DG rfl (AG (by exact (congrArg Prod.snd (LU (.inl ‹_›))).symm))),Z.rD 1 [0,1] (⟨([]:List Int),([]:List (List Row))⟩:Prt) [(none,0),(none,0)] (by exact (congrArg Prod.fst (LU (.inl ‹_›))).symm)⟩,Z.xt⟩
 refine .r 2<|RG.Ln 1 Z<|RG.C0 (C6 b (Z.a 2) (Z.a 1)) Z fun w Z=>?_
 cases aF:(Ai b)
 ·refine .r 2<|.d<|.ct<|.s<|.g<|.r 1<|RG.Ss 0 Z fun w Z=>.r 1<|.d ?_
  have Z:=(Z.sZ Int 0 0).sZ (List Row) 1 0
  exact T.r2 func130 results130 (.B 0 Z) (.t (.bool false)) ⟨⟨_,(DG rfl (AG (by exact (congrArg Prod.snd (LU (.inr ‹_›))).symm))),Z.rD 1 [0,1] (⟨([]:List Int),([]:List (List Row))⟩:Prt) [(none,0),(none,0)] (by exact (congrArg Prod.fst (LU (.inr ‹_›))).symm)⟩,Z.xt⟩
 refine .r 2<|.d<|.cf<|.sk<|.s<|.g<|RG.N0 Int 0 Z fun ao w Z=>RG.N0 (Hd 0) 0 Z fun aq w Z=>?_
 have Z:=Z.o2r 0 0 (List Row) 0
 refine .r 1<|RG.Np Z fun ag w Z=>RG.Ss 0 Z fun w Z=>.d<|.s<|.s<|.g<|.r 1<|.d<|.b 0<|T.Lp ((1:Nat),([]:List Int),ao,(0:Nat),([]:List (List Row)),aq,(0:Nat),([]:List (Hd 0))) (fun (j,ab,r_out_0,c_out_0,aa,r_out_1,c_out_1,hs)=>([(2,vP aj),(3,vP ak),(4,vP am),(6,vP ag),(7,vI (j:Int))],[(0,.box ag 146 [vS r_out_0 ab.length c_out_0,vS r_out_1 aa.length c_out_1]),(1,.raw 0 r_out_1 159 c_out_1 aa hs),(2,.own 0 r_out_0 3 c_out_0 ab)],[⟨0,none,.sep [.e aa hs]⟩],7 - j,(1≤j)∧(j≤7)∧(ab.length≤j)∧(aa.length≤j)∧(ab=(BN 0 (BX a b (j - 1))).1)∧(aa=(BN 0 (BX a b (j - 1))).2)∧(okM a b (j - 1)=true))) [0] Z ⟨AB,AB,(by (simp; done)),(by (simp; done)),AF,AF,AF⟩ ?_
 rintro ⟨j,ab,r_out_0,c_out_0,aa,r_out_1,c_out_1,hs⟩ aU w Z ⟨aG,aH,aI,aJ,aK,aL,aM⟩ ac
 have aN:=Z.mo 2 ab
 have aO:=Z.mr 1 aa hs
 refine .s<|.s<|.g<|.r 1<|.bp ((j:Int)≤6) (fun ah=>?_) (fun ah=>?_)
 ·refine .d<|.ct<|.sk<|.s<|.b 1<|.s<|T.Gd 11 Z fun w Z=>GA.Ln 0 5 Z<|.r [1]<|GA.Ln 3 4 Z<|.r [4]<|.go 2<|GE.CL (fun w Z=>Ft a (j:Int) (Z.a 6) (Z.a 5) (by exact p0)) Z fun aV aW w Z=>?_
  refine .go 5<|GE.CL (fun w Z=>Ft b (j:Int) (Z.a 5) (Z.a 4) (by exact p1)) Z fun aX aY w Z=>?_
  refine .go 6<|GE.DU (us:=[.bool ((Bu (BA a (j:Int)) (BA b (j:Int))).2)]) 2 0 (fun w Z=>JN (BA a (j:Int)) (BA b (j:Int)) (Z.a 1) (Z.a 0) (by exact Ns p0 _) (by exact Ns p1 _)) Z fun ae af w Z=>?_
  refine .r [7,8] ?_
  cases aS:(Bu (BA a (j:Int)) (BA b (j:Int))).2
  ·refine .r [9,10]<|GA.Dn Z fun w Z=>.r 1<|.d<|.s<|.s<|.g<|.r 2<|.d<|.ct<|.s<|.g<|.r 1<|RG.Ss 3 Z fun w Z=>.r 1<|.d ?_
   have Z:=(Z.sZ Int 0 0).sZ (List Row) 1 0
   exact T.r2 func130 results130 (.B 3 Z) (.t (.bool false)) ⟨⟨_,(DG rfl (AG (by exact (congrArg Prod.snd (Rr (k:=j) AB AB ‹_›)).symm))),Z.rD 1 [0,1] (⟨([]:List Int),([]:List (List Row))⟩:Prt) [(none,0),(none,0)] (by exact (congrArg Prod.fst (Rr (k:=j) AB AB ‹_›)).symm)⟩,Z.xt⟩
  refine .r [9,10]<|GA.Dn Z fun w Z=>.r 1<|.d<|.s<|.s<|.g<|.r 2<|.d<|.cf<|.sk<|.s<|.g<|.r 2<|.bp (((((Bu (BA a (j:Int)) (BA b (j:Int))).1).length):Int) > 0) (fun ai=>?_) (fun ai=>?_)
  ·refine .d<|.ct<|.s<|.g<|.r 1<|RG.Lb 0 Z<|.r 1<|RG.Nb 1 Z fun aZ w Z=>RG.Ap 2 0 ab (j:Int) [] Z fun ar ax w Z=>?_
   refine .r 1<|RG.Ss 0 Z fun w Z=>.d<|.g<|.r 1<|RG.Lb 0 Z<|.r 1<|RG.Nb 1 Z fun ba w Z=>RG.Ar 1 0 aa ((Bu (BA a (j:Int)) (BA b (j:Int))).1) hs (⟨Shp.cells ((Bu (BA a (j:Int)) (BA b (j:Int))).1) ([(ae,af)]:List (Option Addr × Nat)),AA⟩:Hd 0) Z fun ay az w Z=>?_
   have Z:=Z.eA 0 0 [1,1] aa hs (⟨Shp.cells ((Bu (BA a (j:Int)) (BA b (j:Int))).1) ([(ae,af)]:List (Option Addr × Nat)),AA⟩:Hd 0) ((Bu (BA a (j:Int)) (BA b (j:Int))).1) ([(ae,af)]:List (Option Addr × Nat))
   refine .r 1<|RG.Ss 0 Z fun w Z=>.d<|.ib 1<|.g<|.r 1<|.it ((j:Int)+1)<|.r 1<|.d ?_
   have Z:=Z.sM 0 0 [0] [.e (aa++[(Bu (BA a (j:Int)) (BA b (j:Int))).1]) (hs++[(⟨Shp.cells ((Bu (BA a (j:Int)) (BA b (j:Int))).1) ([(ae,af)]:List (Option Addr × Nat)),AA⟩:Hd 0)])]
   exact ac (j+1,(ab++[(j:Int)]),ar,ax,(aa++[(Bu (BA a (j:Int)) (BA b (j:Int))).1]),ay,az,(hs++[(⟨Shp.cells ((Bu (BA a (j:Int)) (BA b (j:Int))).1) ([(ae,af)]:List (Option Addr × Nat)),AA⟩:Hd 0)])) _ _ AA (Z.to 0 [0] 7) ⟨AB,AB,(by (simp; omega)),(by (simp; omega)),(by exact WZ ‹_› ‹_› AB ‹_› ‹_› ‹_›),(by exact Wb ‹_› ‹_› AB ‹_› ‹_› ‹_›),(by exact Pl ‹_› AB ‹_›)⟩ (by (simp only []; omega))
  refine .d<|.cf<|.sk<|.ib 1<|.g<|.r 1<|.it ((j:Int)+1)<|.r 1<|.d ?_
  have Z:=Z.sM 0 0 [1] [.e aa hs]
  exact ac (j+1,ab,r_out_0,c_out_0,aa,r_out_1,c_out_1,hs) _ _ AA (Z.to 0 [0] 6) ⟨AB,AB,AB,AB,(by exact Wa ‹_› ‹_› AB ‹_› ‹_› ‹_›),(by exact Wc ‹_› ‹_› AB ‹_› ‹_› ‹_›),(by exact Pl ‹_› AB ‹_›)⟩ (by (simp only []; omega))
 refine .d<|.cf<|.x 0 rfl<|.s<|.g<|RG.Ln 0 Z<|RG.Ss 3 Z fun w Z=>.r 1<|.d ?_
 have Z:=(Z.fL 2 0 0 ab).eL 1 1 0 [1] aa hs
 exact T.r2 func130 results130 (.B 1 Z) (.t (.bool true)) ⟨⟨_,(DG rfl (AG (by exact (Ru (k:=j) AB ‹_› ‹_› ‹_› ‹_› ‹_›).2))),Z.rD 1 [0,1] (⟨ab,aa⟩:Prt) [(some ⟨r_out_0,0,none⟩,c_out_0),(some ⟨r_out_1,0,none⟩,c_out_1)] (by exact (Ru (k:=j) AB ‹_› ‹_› ‹_› ‹_› ‹_›).1)⟩,Z.xt⟩
theorem Er (s:Sto) (h1:RepS w F a1 n1 c1 s.idx.names) (h2:RepS w F a2 n2 c2 s.idx.AX) (h3:RepS w F a3 n3 c3 s.parts) (h4:RepS w F a4 n4 c4 s.mem) (p0:∀ m∈s.mem,BS m.row=true) (p1:∀ m∈s.mem,1≤m.id∧m.id≤6) (p2:s.mem.length≤1000):Calls Tryz.prog 127 [.agg #[.slice a1 n1 c1,.slice a2 n2 c2,.slice a3 n3 c3,.slice a4 n4 c4]].toArray w (Af fun rv w'=>VD w.heap.size w' (Ah s.mem:Prt) rv∧Ext w w'):=by
 cases h1.len
 cases h2.len
 cases h3.len
 cases h4.len
 refine goT func127 ?_
 have Z:=((((St.i0 F w).p h1).p h2).p h3).p h4
 have Z:=Z.s0 0
 refine .s<|.g<|RG.Np Z fun aj w Z=>RG.Np Z fun ak w Z=>.d<|.s<|.g<|RG.N0 Int 0 Z fun am w Z=>RG.N0 (Hd 0) 0 Z fun ao w Z=>?_
 have Z:=Z.o2r 0 0 (List Row) 0
 refine .r 1<|RG.Np Z fun ag w Z=>RG.Ss 0 Z fun w Z=>.d<|.s<|.s<|.g<|.r 1<|.d<|.b 0<|T.Lp ((1:Nat),([]:List Int),am,(0:Nat),([]:List (List Row)),ao,(0:Nat),([]:List (Hd 0))) (fun (id,ab,r_out_0,c_out_0,aa,r_out_1,c_out_1,hs)=>([(1,vP aj),(2,vP ak),(3,vP ag),(4,vI (id:Int))],[(0,.box ag 146 [vS r_out_0 ab.length c_out_0,vS r_out_1 aa.length c_out_1]),(1,.raw 0 r_out_1 159 c_out_1 aa hs),(2,.own 0 r_out_0 3 c_out_0 ab)],[⟨0,none,.sep [.e aa hs]⟩],7 - id,(1≤id)∧(id≤7)∧(ab.length≤id)∧(aa.length≤id)∧(ab=(BN 0 (DX s.mem (id - 1))).1)∧(aa=(BN 0 (DX s.mem (id - 1))).2))) [0] Z ⟨AB,AB,(by (simp; done)),(by (simp; done)),AF,AF⟩ ?_
 rintro ⟨id,ab,r_out_0,c_out_0,aa,r_out_1,c_out_1,hs⟩ aJ w Z ⟨aD,aE,aF,aG,aH,aI⟩ ac
 refine .s<|.s<|.g<|.r 1<|.bp ((id:Int)≤6) (fun ah=>?_) (fun ah=>?_)
 ·refine .d<|.ct<|.sk<|.s<|.b 1<|.s<|.g<|.r 1<|RG.Lb 4 Z<|.r 2<|RG.DA 0 0 (EN (⟨(⟨([]:List (List Tag)),([]:List Pst)⟩:Idx),([]:List Prt),s.mem⟩:Sto) (id:Int) Z.na Z.na Z.na (Z.a 3) AD p0 AD p2) Z fun ae af w Z=>.r 1<|.d<|.s<|.g<|.r 2<|.bp ((((rowsOf (⟨(⟨([]:List (List Tag)),([]:List Pst)⟩:Idx),([]:List Prt),s.mem⟩:Sto) (id:Int)).length):Int) > 0) (fun ai=>?_) (fun ai=>?_)
  ·refine .d<|.ct<|.s<|.g<|.r 1<|RG.Lb 0 Z<|.r 1<|RG.Nb 1 Z fun aK w Z=>RG.Ap 2 0 ab (id:Int) [] Z fun aq ar w Z=>.r 1<|RG.Ss 0 Z fun w Z=>.d<|.g<|.r 1<|RG.Lb 0 Z<|.r 1<|RG.Nb 1 Z fun aL w Z=>RG.Ar 1 0 aa (rowsOf (⟨(⟨([]:List (List Tag)),([]:List Pst)⟩:Idx),([]:List Prt),s.mem⟩:Sto) (id:Int)) hs (⟨Shp.cells (rowsOf (⟨(⟨([]:List (List Tag)),([]:List Pst)⟩:Idx),([]:List Prt),s.mem⟩:Sto) (id:Int)) ([(ae,af)]:List (Option Addr × Nat)),AA⟩:Hd 0) Z fun ax ay w Z=>?_
   have Z:=Z.eA 0 0 [1,1] aa hs (⟨Shp.cells (rowsOf (⟨(⟨([]:List (List Tag)),([]:List Pst)⟩:Idx),([]:List Prt),s.mem⟩:Sto) (id:Int)) ([(ae,af)]:List (Option Addr × Nat)),AA⟩:Hd 0) (rowsOf (⟨(⟨([]:List (List Tag)),([]:List Pst)⟩:Idx),([]:List Prt),s.mem⟩:Sto) (id:Int)) ([(ae,af)]:List (Option Addr × Nat))
   refine .r 1<|RG.Ss 0 Z fun w Z=>.d<|.ib 1<|.g<|.r 1<|.it ((id:Int)+1)<|.r 1<|.d ?_
   have Z:=Z.sM 0 0 [0] [.e (aa++[rowsOf (⟨(⟨([]:List (List Tag)),([]:List Pst)⟩:Idx),([]:List Prt),s.mem⟩:Sto) (id:Int)]) (hs++[(⟨Shp.cells (rowsOf (⟨(⟨([]:List (List Tag)),([]:List Pst)⟩:Idx),([]:List Prt),s.mem⟩:Sto) (id:Int)) ([(ae,af)]:List (Option Addr × Nat)),AA⟩:Hd 0)])]
   exact ac (id+1,(ab++[(id:Int)]),aq,ar,(aa++[rowsOf (⟨(⟨([]:List (List Tag)),([]:List Pst)⟩:Idx),([]:List Prt),s.mem⟩:Sto) (id:Int)]),ax,ay,(hs++[(⟨Shp.cells (rowsOf (⟨(⟨([]:List (List Tag)),([]:List Pst)⟩:Idx),([]:List Prt),s.mem⟩:Sto) (id:Int)) ([(ae,af)]:List (Option Addr × Nat)),AA⟩:Hd 0)])) _ _ AA (Z.to 0 [0] 5) ⟨AB,AB,(by (simp; omega)),(by (simp; omega)),(by exact WR ‹_› AB ‹_›),(by exact WT ‹_› AB ‹_›)⟩ (by (simp only []; omega))
  refine .d<|.cf<|.sk<|.ib 1<|.g<|.r 1<|.it ((id:Int)+1)<|.r 1<|.d ?_
  have Z:=Z.sM 0 0 [1] [.e aa hs]
  exact ac (id+1,ab,r_out_0,c_out_0,aa,r_out_1,c_out_1,hs) _ _ AA (Z.to 0 [0] 4) ⟨AB,AB,AB,AB,(by exact WS ‹_› AB ‹_›),(by exact WU ‹_› AB ‹_›)⟩ (by (simp only []; omega))
 refine .d<|.cf<|.x 0 rfl<|.s<|.g<|RG.Ln 0 Z<|RG.Ss 3 Z fun w Z=>.d ?_
 have Z:=(Z.fL 2 0 0 ab).eL 1 1 0 [1] aa hs
 exact T.Rb 1 func127 results127 Z ⟨Z.rD 1 [0,1] (⟨ab,aa⟩:Prt) [(some ⟨r_out_0,0,none⟩,c_out_0),(some ⟨r_out_1,0,none⟩,c_out_1)] (by exact Zg (k:=id) p1 AB ‹_› ‹_›),Z.xt⟩
end Go.Proofs.YtcginoabkicdiaaGreat
namespace Go.Proofs.YtcginoabkicdiaaGreat
variable {w:World} {F:Nat→Prop} {a1 a2 a3 a4:Option Addr} {n1 c1 n2 c2 n3 c3 n4 c4:Nat}
set_option maxRecDepth 100000 in
theorem GK (a:Prt) (b:Prt) (h1:RepS w F a1 n1 c1 a.ids) (h2:RepS w F a2 n2 c2 a.blocks) (h3:RepS w F a3 n3 c3 b.ids) (h4:RepS w F a4 n4 c4 b.blocks) (p0:CR a) (p1:CR b):Calls Tryz.prog 130 [.agg #[.slice a1 n1 c1,.slice a2 n2 c2],.agg #[.slice a3 n3 c3,.slice a4 n4 c4]].toArray w (Af fun rv w'=>(∃ v0,rv=.tuple #[v0,.bool ((BW a b).2)]∧VS (ge w.heap.size) w' ((BW a b).1:Prt) v0)∧Ext w w'):=by
 refine (GJ a b h1 h2 h3 h4 p0 p1).mono ?_
 rintro e w' ⟨v,rfl,⟨v0,e0,h⟩,hx⟩
 exact ⟨v,rfl,⟨v0,e0,Tt h⟩,hx⟩
set_option maxRecDepth 100000 in
theorem CE (s:Sto) (h1:RepS w F a1 n1 c1 s.idx.names) (h2:RepS w F a2 n2 c2 s.idx.AX) (h3:RepS w F a3 n3 c3 s.parts) (h4:RepS w F a4 n4 c4 s.mem) (p0:∀ m∈s.mem,BS m.row=true) (p1:∀ m∈s.mem,1≤m.id∧m.id≤6) (p2:s.mem.length≤1000):Calls Tryz.prog 127 [.agg #[.slice a1 n1 c1,.slice a2 n2 c2,.slice a3 n3 c3,.slice a4 n4 c4]].toArray w (Af fun rv w'=>VS (ge w.heap.size) w' (Ah s.mem:Prt) rv∧Ext w w'):=by
 refine (Er s h1 h2 h3 h4 p0 p1 p2).mono ?_
 rintro e w' ⟨v,rfl,h,hx⟩
 exact ⟨v,rfl,Tt h,hx⟩
end Go.Proofs.YtcginoabkicdiaaGreat
namespace Go.Proofs.YtcginoabkicdiaaGreat
theorem Pm {P:Program}{T ty t:TypeId}{sz:Nat}{w:World}{r i c m c':Nat}{a2:Option Addr}{cs vs:List Value}(hT:E2 P T t sz=true) (hB:Box w r t cs) (hsrc:0< m→∃ x,a2=some x∧Has w x vs) (hvs:vs.length=m * sz) (hroom:i+m≤c) (hfit:i * sz+vs.length≤cs.length) (hone:∀ v∈vs,Cy v=true) :
 ∃ w',(Builtin.append_ #[T,T] ty #[.slice (some ⟨r,0,none⟩) i c,.slice a2 m c']).run P w=.ok (.slice (some ⟨r,0,none⟩) (i+m) c) w'∧Box w' r t (Ay cs (i * sz) vs)∧Chg (one r) w w':=by
 obtain ⟨g1,inf,z,hinf,hsz,_,_,_⟩:=FB hT
 by_cases hm:m=0
 ·subst hm
  have:vs=[]:=List.length_eq_zero_iff.1 AB
  subst this
  refine ⟨w,Gl g1 hinf _ _ _ _ _ AB w,?_,Chg.refl _ _⟩
  unfold Ay
  simpa using hB
 ·obtain ⟨x,rfl,hx⟩:=hsrc AB
  unfold Box at hB
  have hr:=run_append_room (P:=P) w T ty t inf g1 hinf r i c cs.toArray hB x m c' vs (by rw [hsz]; exact hvs) hx (fun u hu=>O1 (hone u hu)) hroom (by rw [hsz]; simpa using hfit)
  rw [hsz] at hr
  have hset:(w.setRow r (Ay cs (i * sz) vs).toArray).heap[r]? = some (.cells (Ay cs (i * sz) vs).toArray t (0,0)):=setRow_heap w r cs.toArray _ t _ hB
  refine ⟨_,hr,hset,⟨rfl,rfl,rfl,by simp [World.setRow],fun k _ hn=>setRow_other w r k _ hn⟩⟩
def Wd (P:Program) (T t:TypeId) (sz:Nat):Bool :=
 (match P.underlying T with | some (.slice e)=>Nat.beq e t | _=>false) &&
 (match P.info? t with | some i=>(match i.zero with | some z=>Nat.beq z.cells.size sz&&z.cells.toList.all Cy | none=>false) | none=>false)
theorem Pn {P:Program}{T ty t:TypeId}{sz:Nat}{w:World}{r o c:Nat}{cs:List Value}(hT:Wd P T t sz=true) (hB:Box w r t cs) (hfit:o+sz≤cs.length) :
 ∃ vs w',(Builtin.clear_ #[T] ty #[.slice (some ⟨r,o,none⟩) 1 c]).run P w=.ok (.tuple #[]) w'∧vs.length=sz∧Box w' r t (Ay cs o vs)∧Chg (one r) w w':=by
 unfold Wd at hT
 simp only [AW] at hT
 obtain ⟨h1,h2⟩:=hT
 split at h1
 ·rename_i e he
  have:=Nat.eq_of_beq_eq_true h1
  subst this
  split at h2
  ·rename_i inf hinf
   split at h2
   ·rename_i z hz
    simp only [AW,List.all_eq_true] at h2
    have hsz:=Nat.eq_of_beq_eq_true h2.1
    have hl:(Builtin.zeroCells z.cells 1).toList.length=sz:=by rw [Array.length_toList,size_zeroCells,hsz]; omega
    have ho:∀ v∈(Builtin.zeroCells z.cells 1).toList,Cy v=true:=fun v hv=>by
     unfold Builtin.zeroCells at hv
     simp only [Array.toList_map,List.mem_map,Array.toList_range,List.mem_range] at hv
     obtain ⟨k,hk,rfl⟩:=hv
     have hk2:k % z.cells.size< z.cells.size:=Nat.mod_lt _ AB
     refine h2.2 _ ?_
     rw [getElem!_pos z.cells _ hk2]
     exact Array.getElem_mem_toList hk2
    obtain ⟨w',g1,g2,g3,_⟩:=hB.OF (P:=P) (Builtin.zeroCells z.cells 1).toList (o:=o) (i:=0) AB ho
    refine ⟨_,w',?_,hl,g2,g3⟩
    have hv:(zeroValue e).run P w=.ok z w:=by simp [zeroValue,typeInfo,hinf,hz,go_sem]
    unfold Builtin.clear_
    simp only [List.getElem?_toArray,List.getElem?_cons_zero]
    rw [AZ (run_underlying he w)]
    simp only []
    rw [AZ hv,AZ g1]
    rfl
   ·cases h2
  ·cases h2
 ·cases h1
section
variable {P:Program} {n:Nat} {K:Env→World→Prop} {ops:Array Oper} {j:Nat} {e:Env} {w:World}
theorem RG.clear {ats:List TypeId}{ty:TypeId}{args:List Value}{v:Value}{w':World}(h:Bk n ops j e=some (.clear,ats,ty,args))
 (hr:(Builtin.clear_ ats.toArray ty args.toArray).run P w=.ok v w') (H:RG P n K ops (j+1) (Ag e (Ad ops j).dst v) w'):RG P n K ops j e w:=by
 obtain ⟨hg,h⟩:=CG h
 refine RG.val (v:=v) hg ?_ H
 split at h
 ·rename_i c hop
  split at h
  ·rename_i b hcal
   simp only [Option.some.injEq,Prod.mk.injEq] at h
   obtain ⟨rfl,rfl,rfl,rfl⟩:=h
   have ha:(c.args.toList.map (ev e)).toArray=c.args.map (ev e):=by apply Array.toList_inj.1; simp
   rw [ha,Array.toArray_toList] at hr
   simp only [execOp,hop,resolve,hcal]
   exact AZ hr
  ·cases h
 ·cases h
def Zi (n:Nat) (ops:Array Oper) (j:Nat) (e:Env):Option (TypeId × Value × Value × Value × Value) :=
 bif CC n ops j e then
  match (Ad ops j).op with
  | .slice t x (some lo) (some hi) (some mx)=>some (t,ev e x,ev e lo,ev e hi,ev e mx)
  | _=>none
 else none
theorem RG.Zj {t:TypeId}{sz:Nat}{a:Option Addr}{len cap:Nat}{k k2 k3:IntKind}{i1 i2 i3:Int}(l h' m:Nat) (h:Zi n ops j e=some (t,.slice a len cap,.int k i1,.int k2 i2,.int k3 i3)) (ht:Kl P t sz=true) (e1:i1=(l:Int)) (e2:i2=(h':Int)) (e3:i3=(m:Int)) (hlh:l≤h') (hh:h'≤m) (hm:m≤cap)
 (H:∀ v,RG P n K ops (j+1) (Ag e (Ad ops j).dst v) w):RG P n K ops j e w:=by
 obtain ⟨hg,h⟩:=CG h
 unfold Kl at ht
 split at ht
 ·rename_i el hu
  split at ht
  ·rename_i inf hinf
   have hun:(underlying t).run P w=.ok (.slice el) w:=by simp [underlying,hu,go_sem]
   refine RG.val (v:=.slice (if m=l then a else a.map (·.add (l * inf.size))) (h' - l) (m - l)) hg ?_ (H _)
   split at h
   ·rename_i t' x lo hi mx hop
    simp only [Option.some.injEq,Prod.mk.injEq] at h
    obtain ⟨rfl,hx,hlo,hhi,hmx⟩:=h
    simp only [execOp,hop]
    refine AZ ?_
    simp only [Option.map_some,hx,hlo,hhi,hmx]
    unfold Instr.sliceAt
    rw [AZ hun]
    simp only []
    unfold Instr.slice
    rw [AZ hun]
    simp only []
    have hb:(Instr.sliceBounds true len cap (some (.int k i1)) (some (.int k2 i2)) (some (.int k3 i3))).run P w=.ok (l,h',m) w:=by
     unfold Instr.sliceBounds
     simp only []
     rw [AZ (Eb e3 hm w),AZ (Eb e2 hh w),AZ (Eb e1 hlh w)]
     rfl
    rw [AZ hb]
    simp only []
    rw [AZ (show (sizeOf el).run P w=.ok inf.size w by simp [sizeOf,typeInfo,hinf,go_sem])]
    rfl
   ·cases h
  ·cases ht
 ·cases ht
end
theorem GA.Zk {P:Program}{S:Nat→Prop}{n m:Nat}{L:Env→World→Prop}{ops:Array Oper}{l:List Nat}{e:Env}{w:World}{i:Nat}{t:TypeId}{sz r len cap:Nat}{lo hi:Option Value}(l' h':Nat) (hb:gB n m ops l i=true) (h:Db n ops i e=some (t,.slice (some ⟨r,0,none⟩) len cap,lo,hi)) (ht:Kl P t sz=true) (hlo:bnd lo 0 l') (hhi:bnd hi len h') (hlh:l'≤h') (hh:h'≤cap)
 (H:∀ a2 c2,(0< h' - l'→a2=some ⟨r,l' * sz,none⟩)→GA P S n m L ops (i::l) (Ag e (Ad ops i).dst (.slice a2 (h' - l') c2)) w):GA P S n m L ops l e w:=by
 refine GA.OM hb (fun w=>?_) (H (if cap=l' then some ⟨r,0,none⟩ else some ⟨r,l' * sz,none⟩) (cap - l') (fun hp=>by rw [if_neg AB]))
 have h1:=FC h (Hp ht hlo hhi hlh hh w)
 simp only [Option.map_some,add_lit,Nat.zero_add] at h1
 exact h1
theorem Own.YL {α:Type}[Rep α] {w:World}{r:Nat}{t:TypeId}{F:Nat→Prop}{n c:Nat}{xs:List α}(h:Own w r t F n c xs):∃ cs,Box w r t cs∧cs.length=c * Rep.sz α:=by
 obtain ⟨cur,h1,h2⟩:=h.row
 exact ⟨cur.toList,by unfold Box; simpa using h1,by simpa using h2⟩
theorem Own.UL {α:Type}[Rep α] {w w':World}{r:Nat}{t:TypeId}{F:Nat→Prop}{n c i:Nat}{xs:List α}{cs cs':List Value}(h:Own w r t F n c xs) (hx:Chg (one r) w w') (hB:Box w r t cs) (hB':Box w' r t cs') (hl:cs'.length=c * Rep.sz α) (hi:i< n)
 (hp:∀ p,p< (n - 1) * Rep.sz α→cs'[p]? = if p< i * Rep.sz α then cs[p]? else cs[p+Rep.sz α]?):Own w' r t F (n - 1) c (xs.take i++xs.drop (i+1)):=by
 have hn:=h.len
 have hle:=h.le
 have hcap:=h.cap
 unfold Box at hB hB'
 refine ⟨by rw [List.length_append,List.length_take,List.length_drop]; omega,by omega,hcap,⟨cs'.toArray,hB',by simpa using hl⟩,fun k x hk=>?_⟩
 have hfr:∀ b,b< w.heap.size→F b∧b≠r→(F b∧b≠r)∧w'.heap[b]? = w.heap[b]? := fun b hb hF=>⟨hF,hx.block b hb (fun e=>hF.2 e)⟩
 have hk2:k< (xs.take i++xs.drop (i+1)).length:=(List.getElem?_eq_some_iff.1 hk).1
 rw [List.length_append,List.length_take,List.length_drop] at hk2
 by_cases hki:k< i
 ·rw [List.getElem?_append_left (by rw [List.length_take]; omega),List.getElem?_take,if_pos hki] at hk
  obtain ⟨c1,g1,g2⟩:=h.elem k x hk
  refine ⟨c1,Rep.frame g1 hfr,fun u v hv=>?_⟩
  have h3:=g2 u v hv
  have hu:u< Rep.sz α:=by have:=(List.getElem?_eq_some_iff.1 hv).1; rw [Rep.len g1] at this; exact this
  have hm:k * Rep.sz α+Rep.sz α≤i * Rep.sz α:=by rw [← Nat.succ_mul]; exact Nat.mul_le_mul_right _ hki
  have hm2:i * Rep.sz α≤(n - 1) * Rep.sz α:=Nat.mul_le_mul_right _ AB
  rw [add_lit] at h3 ⊢
  simp only [World.cell?,hB] at h3
  simp only [World.cell?,hB']
  have:=hp (k * Rep.sz α+u) AB
  rw [if_pos AB] at this
  simpa [this] using h3
 ·rw [List.getElem?_append_right (by rw [List.length_take]; omega),List.length_take,Nat.min_eq_left AB,List.getElem?_drop] at hk
  rw [show i+1+(k - i)=k+1 by omega] at hk
  obtain ⟨c1,g1,g2⟩:=h.elem (k+1) x hk
  refine ⟨c1,Rep.frame g1 hfr,fun u v hv=>?_⟩
  have h3:=g2 u v hv
  have hu:u< Rep.sz α:=by have:=(List.getElem?_eq_some_iff.1 hv).1; rw [Rep.len g1] at this; exact this
  have hm:k * Rep.sz α+Rep.sz α≤(n - 1) * Rep.sz α:=by rw [← Nat.succ_mul]; exact Nat.mul_le_mul_right _ AB
  have hm2:i * Rep.sz α≤k * Rep.sz α:=Nat.mul_le_mul_right _ AB
  rw [add_lit] at h3 ⊢
  simp only [World.cell?,hB] at h3
  simp only [World.cell?,hB']
  have:=hp (k * Rep.sz α+u) AB
  rw [if_neg AB] at this
  rw [Nat.succ_mul,show k * Rep.sz α+Rep.sz α+u=k * Rep.sz α+u+Rep.sz α by omega] at h3
  simpa [this] using h3
theorem Nu {cs v1 v2:List Value}{n c i sz:Nat}(hl:cs.length=c * sz) (hi:i< n) (hn:n≤c) (h1:v1=(cs.drop ((i+1) * sz)).take ((n - (i+1)) * sz)) (h2:v2.length=sz) :
 (Ay (Ay cs (i * sz) v1) ((n - 1) * sz) v2).length=c * sz∧∀ p,p< (n - 1) * sz→(Ay (Ay cs (i * sz) v1) ((n - 1) * sz) v2)[p]? = if p< i * sz then cs[p]? else cs[p+sz]? := by
 have m1:(i+1) * sz+(n - (i+1)) * sz=n * sz:=by rw [← Nat.add_mul]; congr 1; omega
 have m2:(n - 1) * sz+sz=n * sz:=by rw [← Nat.succ_mul]; congr 1; omega
 have m3:n * sz≤c * sz:=Nat.mul_le_mul_right _ hn
 have m4:(i+1) * sz=i * sz+sz:=Nat.succ_mul _ _
 have l1:v1.length=(n - (i+1)) * sz:=by rw [h1,List.length_take,List.length_drop]; omega
 have l2:(Ay cs (i * sz) v1).length=c * sz:=by rw [EJ AB]; exact hl
 refine ⟨by rw [EJ AB]; exact l2,fun p hp=>?_⟩
 unfold Ay
 rw [List.append_assoc,List.getElem?_append_left (by rw [List.length_take]; unfold Ay at l2; omega),List.getElem?_take,if_pos hp,List.append_assoc]
 by_cases hpi:p< i * sz
 ·rw [if_pos hpi,List.getElem?_append_left (by rw [List.length_take]; omega),List.getElem?_take,if_pos hpi]
 ·rw [if_neg hpi,List.getElem?_append_right (by rw [List.length_take]; omega),List.length_take,Nat.min_eq_left AB,List.getElem?_append_left AB,h1,List.getElem?_take,if_pos AB,List.getElem?_drop]
  congr 1
  omega
variable {w:World} {F:Nat→Prop}
theorem We {x:Prt}{cs:List Value}(h:Rep.rep w F x cs):∀ v∈cs,Cy v=true:=Rep.flat h
theorem Own.Cy {w:World}{r:Nat}{t:TypeId}{F:Nat→Prop}{n c i:Nat}{xs:List Prt}{cs:List Value}(h:Own w r t F n c xs) (hB:Box w r t cs):∀ v,i+(n - i)≤n→v∈(cs.drop (i * 2)).take ((n - i) * 2)→Go.Proofs.YtcginoabkicdiaaGreat.Cy v=true:=by
 intro v hin hv
 obtain ⟨k,hk⟩:=List.mem_iff_getElem?.1 hv
 rw [List.getElem?_take] at hk
 split at hk
 ·rename_i hlt
  rw [List.getElem?_drop] at hk
  have hn:=h.len
  have hj:i+k / 2< xs.length:=by omega
  obtain ⟨c1,g1,g2⟩:=h.elem (i+k / 2) xs[i+k / 2] (AU hj)
  have hl:c1.length=2:=Rep.len g1
  have hk2:k % 2< c1.length:=by omega
  have h3:=g2 (k % 2) c1[k % 2] (AU hk2)
  have hz:Rep.sz Prt=2:=rfl
  unfold Box at hB
  rw [add_lit,hz] at h3
  simp only [World.cell?,hB] at h3
  have e:(i+k / 2) * 2+k % 2=i * 2+k:=by omega
  rw [e] at h3
  have h4:cs[i * 2+k]? = some c1[k % 2]:=by simpa using h3
  rw [hk] at h4
  cases h4
  exact We g1 _ (List.getElem_mem hk2)
 ·cases hk
theorem Sl:∀ (is:List Int) (bs:List (List Row)) (o:Option Int),BU o is bs=true→is.length=bs.length→∀ b∈bs,Ax b=true:=by
 intro is
 induction is with
 | nil =>
   intro bs o _ hl b hb
   cases bs with
   | nil=>cases hb
   | cons c cs=>simp at hl
 | cons i is ih =>
   intro bs o h hl b hb
   cases bs with
   | nil=>cases hb
   | cons c cs =>
     unfold BU at h
     simp only [AW] at h
     rcases List.mem_cons.1 hb with rfl | hb
     ·exact h.1.2
     ·exact ih cs (some i) h.2 (by simpa using hl) b hb
theorem Eg {p:Prt}(h:Ai p=true) (id:Int):Ax (partOf p id)=true:=by
 rcases Jl id p.ids p.blocks with h1 | h1
 ·unfold partOf; rw [h1]; rfl
 ·unfold Ai at h
  simp only [AW,decide_eq_true_eq] at h
  exact Sl p.ids p.blocks none h.2 h.1 _ h1
theorem Qt {id t:Int}:∀ (ps:List Prt) (o:List Row),(∀ p∈ps,PrtI p)→Blk o→((look t o).isSome=true∨∃ p∈ps,(look t (partOf p id)).isSome=true)→(look t (ps.foldl (CP id) o)).isSome=true:=by
 intro ps
 induction ps with
 | nil =>
   rintro o _ _ (h | ⟨p,hp,_⟩)
   ·exact h
   ·cases hp
 | cons p ps ih =>
   intro o hI ho h
   have hp:Blk (partOf p id):=(hI p AD).of id
   refine ih _ (fun q hq=>hI q (by simp [hq])) (ho.merge hp) ?_
   have e:look t (CP id o p)=(look t (partOf p id)).or (look t o):=Cv t o ho hp
   rcases h with h | ⟨q,hq,h⟩
   ·refine .inl ?_
    rw [e]
    cases look t (partOf p id) with
    | none=>exact h
    | some x=>rfl
   ·rcases List.mem_cons.1 hq with rfl | hq
    ·refine .inl ?_
     rw [e]
     obtain ⟨x,hx⟩:=Option.isSome_iff_exists.1 h
     rw [hx]; rfl
    ·exact .inr ⟨q,hq,h⟩
theorem LV {p:Prt}{n:Int}(h:BT p n=true):∀ i∈p.ids,i≤n:=by
 unfold BT at h
 simp only [AW] at h
 obtain ⟨h1,h2⟩:=h
 unfold Ai at h1
 simp only [AW,decide_eq_true_eq] at h1
 have key:∀ (is:List Int) (bs:List (List Row)) (o:Option Int),BU o is bs=true→(∀ q,o=some q→∀ i∈is,q< i)∧∀ l,is.getLast? = some l→∀ i∈is,i≤l:=by
  intro is
  induction is with
  | nil=>intro bs o _; exact ⟨fun _ _ i hi=>(by cases hi),fun l hl=>(by simp at hl)⟩
  | cons x xs ih =>
    intro bs o hg
    cases bs with
    | nil=>simp [BU] at hg
    | cons b bs =>
      simp only [BU,AW] at hg
      obtain ⟨k1,k2⟩:=ih bs (some x) hg.2
      have hx:∀ q,o=some q→q< x:=fun q hq=>by
       have:=hg.1.1.1.2
       rw [hq] at this
       simpa using this
      refine ⟨fun q hq i hi=>?_,fun l hl i hi=>?_⟩
      ·rcases List.mem_cons.1 hi with rfl | hi
       ·exact hx q hq
       ·have:=k1 x rfl i hi; have:=hx q hq; omega
      ·cases hc:xs.getLast? with
       | none =>
         have:xs=[]:=List.getLast?_eq_none_iff.1 hc
         subst this
         simp at hl hi
         omega
       | some l2 =>
         have e:(x::xs).getLast? = some l2:=by rw [List.getLast?_cons,hc]; rfl
         rw [e] at hl
         cases hl
         rcases List.mem_cons.1 hi with rfl | hi
         ·have:=k1 i rfl l (List.mem_of_getLast? hc); omega
         ·exact k2 l hc i hi
 intro i hi
 cases hl:p.ids.getLast? with
 | none=>rw [hl] at h2; cases h2
 | some l =>
   rw [hl] at h2
   have:=(key p.ids p.blocks none h1.2).2 l hl i hi
   have h3:l≤n:=by simpa using h2
   omega
theorem J8 {p:Prt}{id:Int}(h:∀ i∈p.ids,i< id):partOf p id=[]:=by
 have key:∀ (is:List Int) (bs:List (List Row)),(∀ i∈is,i< id)→Bd id is bs=[]:=by
  intro is
  induction is with
  | nil=>intro bs _; unfold Bd; rfl
  | cons i is ih =>
    intro bs h
    cases bs with
    | nil=>unfold Bd; rfl
    | cons b bs =>
      unfold Bd
      rw [if_neg (by have:=h i AD; simp; omega)]
      exact ih bs (fun j hj=>h j (by simp [hj]))
 exact key _ _ h
theorem MF {s:Sto}(h:SD s) (hk:Ae s=true){x y:Prt}(hx:x∈s.parts) (hy:y∈s.parts):BW x y=(BB x y,true):=by
 have hK:=StoK.of h hk
 have ox:=(hK.part x hx).2
 have oy:=(hK.part y hy).2
 unfold BW
 rw [if_pos]
 refine ⟨ox,oy,?_⟩
 unfold okM
 rw [List.all_eq_true]
 intro i hi
 rw [List.mem_range] at hi
 have e1:BA x ((i:Int)+1)=partOf x ((i:Int)+1):=by unfold BA; rw [if_pos ox]
 have e2:BA y ((i:Int)+1)=partOf y ((i:Int)+1):=by unfold BA; rw [if_pos oy]
 rw [e1,e2]
 have b1:=Eg ox ((i:Int)+1)
 have b2:=Eg oy ((i:Int)+1)
 have hl:(Bg (partOf x ((i:Int)+1)) (partOf y ((i:Int)+1))).length≤24:=by
  unfold Ae at hk
  simp only [AW,decide_eq_true_eq,List.all_eq_true,List.mem_range,Ep] at hk
  by_cases hin:i< s.idx.names.length
  ·have bb:=(HZ b1).merge (HZ b2)
   have hP:Blk (s.parts.foldl (CP ((i:Int)+1)) []):=GI h.part Blk.nil
   refine Nat.le_trans (Of bb (b:=rowsOf s ((i:Int)+1)) ?_ (fun t ht=>?_)) (hk.2 i hin)
   ·exact (EP 0 _ s.mem _ hK.row hP).2
   ·refine Rm hK _ t (.inl (Qt s.parts [] h.part Blk.nil (.inr ?_)))
    rw [Cv t _ (HZ b1) (HZ b2)] at ht
    cases hc:look t (partOf y ((i:Int)+1)) with
    | some q=>exact ⟨y,hy,by rw [hc]; rfl⟩
    | none=>rw [hc] at ht; exact ⟨x,hx,ht⟩
  ·have g:=fun p hp=>J8 (p:=p) (id:=(i:Int)+1) (fun j hj=>by have:=LV (hk.1.1.2 p hp) j hj; omega)
   rw [g x hx,g y hy]
   decide
 unfold Bu
 rw [if_pos ⟨b1,b2,by omega⟩]
theorem Po {s:Sto}{i:Int}(_h:SD s) (hk:Ae s=true) (h1:inR i 0 ((s.parts.length:Int) - 2)=false):Dx s i=(AY s,false):=by
 rw [Ir hk]; exact Lu h1
theorem Pp {s:Sto}{i:Int}{x y:Prt}(h:SD s) (hk:Ae s=true) (h1:inR i 0 ((s.parts.length:Int) - 2)=true) (hx:s.parts[i.toNat]? = some x) (hy:s.parts[(i+1).toNat]? = some y) :
 Dx s i=(⟨(AY s).idx,[]++(((AY s).parts.set i.toNat (BW x y).1).take (i.toNat+1)++((AY s).parts.set i.toNat (BW x y).1).drop (i.toNat+1+1)),(AY s).mem⟩,true):=by
 have h2:=Bt h1
 have hx2:=(List.getElem?_eq_some_iff.1 hx).1
 rw [Ir hk]
 have e:=Lv (s:=AY s) (a:=i) (x:=x) (y:=y) h1 hx hy
 rw [e,MF h hk (AV hx) (AV hy)]
 have ep:(AY s).parts=s.parts:=rfl
 rw [ep]
 have e2:(i+2).toNat=i.toNat+2:=by omega
 congr 2
 rw [e2,List.nil_append,List.nil_append,List.drop_zero,List.take_length]
 congr 1
 ·rw [List.take_add_one,List.take_set_of_le (Nat.le_refl _),List.getElem?_set_self (by exact hx2)]
  rfl
 ·rw [List.drop_set_of_lt AB]
end Go.Proofs.YtcginoabkicdiaaGreat
namespace Go.Proofs.YtcginoabkicdiaaGreat
theorem Sm {s:Sto}(h:SD s) (h1:(Cw s).2=true):(Cw s).1=DY s∧Ae s=true∧s.mem≠[]∧s.parts.length< 6:=by
 cases hk:Ae s with
 | false=>rw [J7 hk] at h1; cases h1
 | true =>
   by_cases hc:(s.mem.length:Int)=0∨(s.parts.length:Int)=6
   ·rw [HX h hk hc] at h1; cases h1
   ·have h6:=Oh hk
    rw [JM h hk AB AB]
    refine ⟨?_,rfl,fun e=>?_,by omega⟩
    ·show (⟨(AY s).idx,(AY s).parts++[Ah s.mem],[]⟩:Sto)=DY s
     rw [h.copy]
     rfl
    ·rw [e] at hc; simp at hc
end Go.Proofs.YtcginoabkicdiaaGreat
namespace Go.Proofs.YtcginoabkicdiaaGreat
theorem Nv (a b:Prt){id:Int}(h1:1≤id) (h2:id≤6):partOf (BB a b) id=Bg (partOf a id) (partOf b id):=by
 unfold BB
 rw [Pc _ h1,List.getD_eq_getElem?_getD]
 unfold BX
 rw [List.getElem?_map,List.getElem?_range AB]
 simp only [Option.map_some,Option.getD_some]
 rw [show (((id - 1).toNat:Nat):Int)+1=id by omega]
def DZ (s:Sto) (k:Nat):Sto:=⟨s.idx,GX s.parts k,s.mem⟩
theorem IB {s:Sto}{k:Nat}(hk:k+2≤s.parts.length):∃ x y,s.parts[k]? = some x∧s.parts[k+1]? = some y∧(DZ s k).parts=s.parts.take k++[BB x y]++s.parts.drop (k+2):=by
 refine ⟨_,_,AU AB,AU AB,?_⟩
 exact Hu (AU AB) (AU AB)
theorem Pq {s:Sto}(h:StoK s){k:Nat}(hk:k+2≤s.parts.length){id:Int}(h1:1≤id) (h2:id≤6):(DZ s k).parts.foldl (CP id) []=s.parts.foldl (CP id) []∧rowsOf (DZ s k) id=rowsOf s id:=by
 obtain ⟨x,y,hx,hy,e⟩:=IB hk
 have key:(DZ s k).parts.foldl (CP id) []=s.parts.foldl (CP id) []:=by
  have hs:s.parts=s.parts.take k++[x,y]++s.parts.drop (k+2):=by
   have e1:=List.take_append_drop k s.parts
   rw [Ab hx,Ab hy] at e1
   rw [List.append_assoc]
   exact e1.symm
  rw [e]
  conv=>rhs; rw [hs]
  simp only [List.foldl_append,List.foldl_cons,List.foldl_nil]
  congr 1
  have px:=h.sd.part x (AV hx)
  have py:=h.sd.part y (AV hy)
  have ho:Blk ((s.parts.take k).foldl (CP id) []):=GI (fun p hp=>h.sd.part p (List.mem_of_mem_take hp)) Blk.nil
  unfold CP
  rw [Nv x y h1 h2]
  exact (Og ho (px.of id) (py.of id)).symm
 refine ⟨key,?_⟩
 unfold rowsOf
 rw [key]
 rfl
theorem Qu {p:Prt}{n:Int}(h:BT p n=true):∃ id:Int,1≤id∧id≤6∧id≤n∧0< (partOf p id).length:=by
 have hle:=LV h
 unfold BT at h
 simp only [AW] at h
 obtain ⟨h1,h2⟩:=h
 unfold Ai at h1
 simp only [AW,decide_eq_true_eq] at h1
 obtain ⟨h3,h4⟩:=h1
 unfold partOf
 cases hi:p.ids with
 | nil=>rw [hi] at h2; simp at h2
 | cons i is =>
   cases hb:p.blocks with
   | nil=>rw [hi,hb] at h3; simp at h3
   | cons b bs =>
     rw [hi,hb] at h4
     unfold BU at h4
     simp only [AW,decide_eq_true_eq] at h4
     have h5:=Bt h4.1.1.1.1
     refine ⟨i,h5.1,h5.2,hle i (by rw [hi]; simp),?_⟩
     unfold Bd
     rw [if_pos AD]
     exact h4.1.1.2
theorem Pr {s:Sto}(h:SD s) (hk:Ae s=true){x y:Prt}(hx:x∈s.parts) (hy:y∈s.parts){id:Int}(h1:1≤id) (h2:id≤6):Blk (Bg (partOf x id) (partOf y id))∧(Bg (partOf x id) (partOf y id)).length≤24:=by
 have e:=MF h hk hx hy
 unfold BW at e
 split at e
 ·rename_i hc
  obtain ⟨ox,oy,hm⟩:=hc
  unfold okM at hm
  rw [List.all_eq_true] at hm
  have:=hm (id - 1).toNat (by rw [List.mem_range]; omega)
  rw [show (((id - 1).toNat:Nat):Int)+1=id by omega] at this
  have e1:BA x id=partOf x id:=by unfold BA; rw [if_pos ox]
  have e2:BA y id=partOf y id:=by unfold BA; rw [if_pos oy]
  rw [e1,e2] at this
  refine ⟨(HZ (Eg ox id)).merge (HZ (Eg oy id)),?_⟩
  unfold Bu at this
  split at this
  ·rename_i hc; have:=hc.2.2; omega
  ·cases this
 ·exact absurd (congrArg Prod.snd e) AD
theorem J9 {s:Sto}(h:SD s) (hk:Ae s=true){k:Nat}(hl:k+2≤s.parts.length):Ae (DZ s k)=true:=by
 have hK:=StoK.of h hk
 obtain ⟨x,y,hx,hy,e⟩:=IB hl
 have mx:=AV hx
 have my:=AV hy
 have hn:=h.nm.len
 have hk2:=hk
 unfold Ae at hk2 ⊢
 simp only [AW,decide_eq_true_eq,List.all_eq_true,List.mem_range,Ep] at hk2 ⊢
 obtain ⟨⟨⟨⟨a1,a2⟩,a3⟩,a4⟩,a5⟩:=hk2
 refine ⟨⟨⟨⟨?_,a2⟩,fun p hp=>?_⟩,a4⟩,fun i hi=>?_⟩
 ·rw [e]
  simp only [List.length_append,List.length_take,List.length_drop,List.length_cons,List.length_nil]
  omega
 ·rw [e] at hp
  simp only [List.mem_append,List.mem_cons,List.not_mem_nil,or_false] at hp
  rcases hp with (hp | rfl) | hp
  ·exact a3 p (List.mem_of_mem_take hp)
  ·show BT (EC (BX x y 6)) s.idx.names.length=true
   have hblk:∀ (i:Nat) b,(BX x y 6)[i]? = some b→i< 6∧b=Bg (partOf x ((i:Int)+1)) (partOf y ((i:Int)+1)):=fun i b hb=>by
    unfold BX at hb
    rw [List.getElem?_map] at hb
    by_cases hi:i< 6
    ·rw [List.getElem?_range hi] at hb
     simp only [Option.map_some,Option.some.injEq] at hb
     exact ⟨hi,hb.symm⟩
    ·rw [List.getElem?_eq_none (by simp; omega)] at hb
     cases hb
   refine Pe (fun b hb=>?_) (by rw [D1]; omega) ?_ (fun i b hb hp=>?_)
   ·obtain ⟨i,hi⟩:=List.mem_iff_getElem?.1 hb
    obtain ⟨h6,rfl⟩:=hblk i b hi
    exact Pr h hk mx my AB AB
   ·obtain ⟨id,g1,g2,_,g4⟩:=Qu (a3 x mx)
    refine ⟨Bg (partOf x id) (partOf y id),?_,?_⟩
    ·unfold BX
     refine List.mem_map.2 ⟨(id - 1).toNat,by simp; omega,?_⟩
     rw [show (((id - 1).toNat:Nat):Int)+1=id by omega]
    ·have bx:=(h.part x mx).of id
     have by':=(h.part y my).of id
     have:=Of bx (bx.merge by') (fun t ht=>by
      rw [Cv t _ bx by']
      cases look t (partOf y id) with
      | none=>exact ht
      | some q=>rfl)
     omega
   ·obtain ⟨h6,rfl⟩:=hblk i b hb
    by_cases hin:i< s.idx.names.length
    ·exact hin
    ·rw [J8 (p:=x) (fun j hj=>by have:=LV (a3 x mx) j hj; omega),J8 (p:=y) (fun j hj=>by have:=LV (a3 y my) j hj; omega)] at hp
     exact absurd hp AE
  ·exact a3 p (List.mem_of_mem_drop hp)
 ·rw [(Pq hK hl AB (by have:i< s.idx.names.length:=hi; omega)).2]
  exact a5 i hi
end Go.Proofs.YtcginoabkicdiaaGreat
namespace Go.Proofs.YtcginoabkicdiaaGreat
theorem UM (v:Int):∀ (l:List Int) (i:Nat),l.contains v=decide (Ec v i l≥0):=by
 intro l
 induction l with
 | nil=>intro i; simp [Ec]
 | cons x xs ih =>
   intro i
   have:=ih (i+1)
   have e:Ec v i (x::xs)=if x==v then (i:Int) else Ec v (i+1) xs:=rfl
   rw [e,List.contains_cons,this]
   by_cases h:x=v
   ·subst h; simp
   ·have h1:(x==v)=false:=beq_eq_false_iff_ne.2 h
    have h2:(v==x)=false:=beq_eq_false_iff_ne.2 (fun e=>h e.symm)
    rw [h1,h2]
    simp
def Cm (nx:Int):Option Int→List Fil→Bool
 | _,[]=>true
 | o,f::fs=>inR f.num 1 (nx - 1)&&(match o with | some q=>decide (q< f.num) | none=>true)&&Ai f.part&&Cm nx (some f.num) fs
def DO (d:Dsk):Bool:=d.list.all (fun n=>decide (0≤Al d n))&&decide d.list.Nodup
def Ak (d:Dsk):Bool:=inR d.next 1 999&&decide (d.files.length≤20)&&decide (d.list.length≤6)&&Cm d.next none d.files&&DO d&&(nmB d.names&&Ae (Aj d))
structure DD (d:Dsk):Prop where
 g:NmG d.names
 nl:d.list.length≤7
 nf:d.files.length≤20
 file:∀ f∈d.files,PrtI f.part
 next:0≤d.next∧d.next≤999
theorem DD.part {d:Dsk}(h:DD d) (n:Int):PrtI (Ao d n):=by
 unfold Ao
 rw [List.getD_eq_getElem?_getD]
 cases hx:d.files[(Al d n).toNat]? with
 | none=>exact PrtI.nil
 | some f=>exact h.file f (AV hx)
theorem DD.sg {d:Dsk}(h:DD d):SG (Aj d):=by
 refine ⟨⟨h.g,fun _=>rfl⟩,by simp [Aj]; exact h.nl,fun p hp=>?_,by simp [Aj],by simp [Aj]⟩
 simp only [Aj,List.mem_map] at hp
 obtain ⟨n,_,rfl⟩:=hp
 exact h.part n
def KA (fs:List Fil) (k:Nat):Option Int:=prev (fs.map Fil.num) k
theorem JO {nx:Int}{fs:List Fil}{k:Nat}{f:Fil}{b:Bool}(h:Cm nx (KA fs k) (fs.drop k)=b) (hd:fs.drop k=f::fs.drop (k+1)) (hf:fs[k]? = some f) (h1:inR f.num 1 (nx - 1)=true) (h2:k=0∨∃ q,fs[k - 1]? = some q∧¬ q.num≥f.num) (h3:Ai f.part=true):Cm nx (KA fs (k+1)) (fs.drop (k+1))=b:=by
 rw [hd] at h
 unfold Cm at h
 have e:KA fs (k+1)=some f.num:=by unfold KA; rw [SI,List.getElem?_map,hf]; rfl
 have e2:(match KA fs k with | some q=>decide (q< f.num) | none=>true)=true:=by
  rcases h2 with rfl | ⟨q,hq,hlt⟩
  ·rfl
  ·by_cases hk:k=0
   ·subst hk; rfl
   ·have:KA fs k=some q.num:=by unfold KA; rw [PA _ _ AB,List.getElem?_map,hq]; rfl
    rw [this]
    simp
    omega
 rw [h1,h3,e2] at h
 rw [e]
 simpa using h
theorem Ha {nx:Int}{fs:List Fil}{k:Nat}{f:Fil}{b:Bool}(h:Cm nx (KA fs k) (fs.drop k)=b) (hd:fs.drop k=f::fs.drop (k+1)) (h1:inR f.num 1 (nx - 1)=false∨(0< k∧∃ q,fs[k - 1]? = some q∧q.num≥f.num)∨Ai f.part=false):b=false:=by
 rw [hd] at h
 unfold Cm at h
 rw [← h]
 rcases h1 with h1 | ⟨hk,q,hq,hge⟩ | h1
 ·rw [h1]; simp
 ·have:KA fs k=some q.num:=by unfold KA; rw [PA _ _ AB,List.getElem?_map,hq]; rfl
  have e2:decide (q.num< f.num)=false:=decide_eq_false AB
  rw [this]
  simp only [e2]
  simp
 ·rw [h1]; simp
theorem Rv {nx:Int}{fs:List Fil}{k:Nat}{b:Bool}(h:Cm nx (KA fs k) (fs.drop k)=b) (hk:fs.length≤k):b=true:=by
 rw [Aa hk] at h
 exact h.symm
def Sn (d:Dsk) (k:Nat):Prop:=∀ j n,j< k→d.list[j]? = some n→0≤Al d n∧n∉d.list.take j
theorem UN (d:Dsk):Sn d 0:=fun j _ h=>absurd h AB
def fresh (d:Dsk) (n:Int) (k:Nat):Prop:=n∉d.list.take k
theorem Wf (d:Dsk) (n:Int):fresh d n 0:=by unfold fresh; simp
theorem Qv {d:Dsk}{n m:Int}{k:Nat}(h:fresh d n k) (hm:d.list[k]? = some m) (h2:m≠n):fresh d n (k+1):=by
 unfold fresh at h ⊢
 rw [List.take_add_one,hm]
 simp only [Option.toList_some,List.mem_append,List.mem_cons,List.not_mem_nil,or_false,not_or]
 exact ⟨h,fun e=>h2 e.symm⟩
theorem UO {d:Dsk}{n:Int}{k:Nat}(h:((d.list.take k).drop 0).contains n=false):fresh d n k:=by
 unfold fresh
 rw [List.drop_zero] at h
 intro hm
 rw [List.contains_iff_mem.2 hm] at h
 cases h
theorem Nw {d:Dsk}{k j:Nat}{n:Int}(h:Sn d k) (hn:d.list[k]? = some n) (h1:¬ Al d n< 0) (h2:fresh d n j) (hj:k≤j):Sn d (k+1):=fun i m hi hm=>by
 by_cases e:i=k
 ·subst e
  rw [hn] at hm
  cases hm
  refine ⟨by omega,fun hmem=>h2 ?_⟩
  obtain ⟨a,ha⟩:=List.mem_iff_getElem?.1 hmem
  rw [List.getElem?_take] at ha
  split at ha
  ·exact List.mem_iff_getElem?.2 ⟨a,by rw [List.getElem?_take,if_pos AB]; exact ha⟩
  ·cases ha
 ·exact h i m AB hm
theorem JP {d:Dsk}{k:Nat}(h:Sn d k) (hk:d.list.length≤k):DO d=true:=by
 unfold DO
 rw [AW,List.all_eq_true,decide_eq_true_eq]
 refine ⟨fun n hn=>?_,?_⟩
 ·obtain ⟨j,hj⟩:=List.mem_iff_getElem?.1 hn
  have:=(h j n (by have:=(List.getElem?_eq_some_iff.1 hj).1; omega) hj).1
  simpa using this
 ·unfold List.Nodup
  rw [List.pairwise_iff_getElem]
  intro i j hi hj hij e
  refine (h j d.list[j] AB (AU hj)).2 ?_
  rw [← e]
  exact List.mem_iff_getElem?.2 ⟨i,by rw [List.getElem?_take,if_pos hij]; exact AU hi⟩
theorem UP {d:Dsk}{k:Nat}{n:Int}(hn:d.list[k]? = some n) (h:Al d n< 0):DO d=false:=by
 cases hb:DO d with
 | false=>rfl
 | true =>
   unfold DO at hb
   rw [AW,List.all_eq_true] at hb
   have:=hb.1 n (AV hn)
   simp at this
   omega
theorem UQ {d:Dsk}{k:Nat}{n:Int}(hn:d.list[k]? = some n) (h:n∈d.list.take k):DO d=false:=by
 cases hb:DO d with
 | false=>rfl
 | true =>
   unfold DO at hb
   rw [AW,decide_eq_true_eq] at hb
   obtain ⟨i,hi⟩:=List.mem_iff_getElem?.1 h
   rw [List.getElem?_take] at hi
   split at hi
   ·rename_i hik
    have hd:=hb.2
    unfold List.Nodup at hd
    rw [List.pairwise_iff_getElem] at hd
    obtain ⟨a1,a2⟩:=List.getElem?_eq_some_iff.1 hi
    obtain ⟨b1,b2⟩:=List.getElem?_eq_some_iff.1 hn
    exact absurd (a2.trans b2.symm) (hd i k a1 b1 hik)
   ·cases hi
theorem DP {d:Dsk}(h:DO d=true):∀ n∈d.list,0≤Al d n:=fun n hn=>by
 unfold DO at h
 rw [AW,List.all_eq_true] at h
 have:=h.1 n hn
 simpa using this
theorem YM {d:Dsk}{k j:Nat}{n m:Int}(hn:d.list[k]? = some n) (hm:d.list[j]? = some m) (hj:j< k) (e:m=n):DO d=false:=by
 subst e
 exact UQ hn (List.mem_iff_getElem?.2 ⟨j,by rw [List.getElem?_take,if_pos hj]; exact hm⟩)
theorem YN {d:Dsk}{k:Nat}{n:Int}(hn:d.list[k]? = some n) (h:((d.list.take k).drop 0).contains n=true):DO d=false:=by
 rw [List.drop_zero] at h
 exact UQ hn (List.contains_iff_mem.1 h)
section
variable {d:Dsk}
theorem Qw (h:inR d.next 1 999=false∨(d.files.length:Int) > 20∨(d.list.length:Int) > 6∨(d.names.length:Int) > 6):Ak d=false:=by
 unfold Ak
 rcases h with h | h | h | h
 ·rw [h]; simp
 ·rw [decide_eq_false (p:=d.files.length≤20) AB]; simp
 ·rw [decide_eq_false (p:=d.list.length≤6) AB]; simp
 ·rw [← Rl h]; simp
theorem Ps (h:Cm d.next none d.files=false):Ak d=false:=by unfold Ak; rw [h]; simp
theorem Wg (h:DO d=false):Ak d=false:=by unfold Ak; rw [h]; simp
theorem Zl (h1:inR d.next 1 999=true) (h2:¬ (d.files.length:Int) > 20) (h3:¬ (d.list.length:Int) > 6) (h5:Cm d.next none d.files=true) (h6:DO d=true):Ak d=(nmB d.names&&Ae (Aj d)):=by
 unfold Ak
 rw [h1,h5,h6,decide_eq_true AB,decide_eq_true AB]
 simp
theorem pP {y:Sto}(h1:inR d.next 1 999=true) (h2:¬ (d.files.length:Int) > 20) (h3:¬ (d.list.length:Int) > 6) (h5:Cm d.next none d.files=true) (h6:DO d=true) (hd:NsD d.names) (hy:y.idx.names=d.names∧(NmI d.names→NsD d.names→y=Aj d)):(nmB y.idx.names&&Ae y)=Ak d:=by
 rw [Zl h1 h2 h3 h5 h6,hy.1]
 cases hb:nmB d.names with
 | false=>rfl
 | true=>rw [hy.2 (Cu.1 hb) hd]
theorem Cn (h:Ak d=true):NmI d.names∧Ae (Aj d)=true∧DO d=true:=by
 unfold Ak at h
 simp only [AW] at h
 exact ⟨Cu.1 h.2.1,h.2.2,h.1.2⟩
theorem DD.sd (h:DD d) (hk:Ak d=true):SD (Aj d):=by
 obtain ⟨h1,h2,_⟩:=Cn hk
 have h3:=Oh h2
 exact h.sg.sd (Cu.2 h1) h3
def Eh (d:Dsk):Sto:=if Ak d then Aj d else ⟨⟨[],[]⟩,[],[]⟩
theorem Wh (h:Ak d=false):Eh d=⟨⟨[],[]⟩,[],[]⟩:=by unfold Eh; rw [if_neg (by simp [h])]
theorem JQ (h:Ak d=true):Eh d=Aj d:=by unfold Eh; rw [if_pos h]
end
theorem Nx {d:Dsk}{l:List Int}{i:Nat}{n:Int}{k Y:List Prt}{f:Fil}(h:k++(l.drop i).map (Ao d)=Y) (hd:l.drop i=n::l.drop (i+1)) (hf:d.files[(Al d n).toNat]? = some f):(k++[f.part])++(l.drop (i+1)).map (Ao d)=Y:=by
 rw [hd,List.map_cons] at h
 rw [← h]
 have:Ao d n=f.part:=by unfold Ao; rw [List.getD_eq_getElem?_getD,hf]; rfl
 rw [this]
 simp
theorem Pt {d:Dsk}{l:List Int}{i:Nat}{k Y:List Prt}(h:k++(l.drop i).map (Ao d)=Y) (hi:l.length≤i):k=Y:=by
 rw [Aa hi] at h
 simpa using h
theorem El {d:Dsk}{n:Int}(h:0≤Al d n):(Al d n).toNat< d.files.length∧Al d n=((Al d n).toNat:Int):=by
 have:=(LN n d.files 0).1
 unfold Al at h ⊢
 omega
def FR (d:Dsk) (y:Sto):Prop:=y.idx.names=d.names∧y.parts=(Aj d).parts∧y.mem=[]∧(NmI d.names→NsD d.names→y=Aj d)
theorem FR.mk {d:Dsk}{a:List (List Tag)}{b:List Pst}{c:List Prt}{e:List Smp}(h1:a=d.names) (h2:c=d.list.map (Ao d)) (h3:e=[]) (h4:NmI d.names→NsD d.names→(⟨a,b⟩:Idx)=idxOf d.names):FR d ⟨⟨a,b⟩,c,e⟩:=by
 subst h2 h3
 refine ⟨h1,rfl,rfl,fun x y=>?_⟩
 unfold Aj
 rw [h4 x y]
theorem FR.sg {d:Dsk}{y:Sto}(q:FR d y) (h:DD d):SG y:=by
 obtain ⟨q1,q2,q3,q4⟩:=q
 refine ⟨⟨by rw [q1]; exact h.g,fun hn=>?_⟩,by rw [q2]; exact h.sg.np,fun p hp=>h.sg.part p (by rw [← q2]; exact hp),by rw [q3]; simp,by rw [q3]; simp⟩
 rw [q1] at hn ⊢
 have:=q4 hn h.g.nd
 rw [this]
 rfl
theorem FR.eq {d:Dsk}{y:Sto}(q:FR d y) (h:DD d) (hk:Ak d=true):y=Eh d:=by rw [JQ hk]; exact q.2.2.2 (Cn hk).1 h.g.nd
theorem FR.dk {d:Dsk}{y:Sto}(hy:FR d y) (h:DD d) (h1:inR d.next 1 999=true) (h2:¬ (d.files.length:Int) > 20) (h3:¬ (d.list.length:Int) > 6) (h5:Cm d.next none d.files=true) (h6:DO d=true):(nmB y.idx.names&&Ae y)=Ak d:=pP h1 h2 h3 h5 h6 h.g.nd ⟨hy.1,hy.2.2.2⟩
end Go.Proofs.YtcginoabkicdiaaGreat
namespace Go.Proofs.YtcginoabkicdiaaGreat
set_option maxRecDepth 100000
set_option maxHeartbeats 4000000
variable {w:World} {F:Nat→Prop} {a1 a2 a3:Option Addr} {n1 c1 n2 c2 n3 c3:Nat}
theorem Is (f:Fil) (num:Int) (h1:RepS w F a1 n1 c1 f.part.ids) (h2:RepS w F a2 n2 c2 f.part.blocks){bq_num:Nat}(hb_num:Box w bq_num 3 [.int .i64 num])  : Calls Tryz.prog 185 [.agg #[.int .i64 f.num,.slice a1 n1 c1,.slice a2 n2 c2],.pointer (some ⟨bq_num,0,none⟩)].toArray w (Af fun rv w'=>rv=.bool ((f.num==num))∧Ext w w'):=by
 cases h1.len
 cases h2.len
 refine goT func185 ?_
 have Z:=(((St.i0 F w).p h1).p h2).pb' hb_num
 exact .s<|.g<|RG.Np Z fun ac w Z=>.r 1<|.d<|.s<|.g<|.r 1<|RG.Lb 0 Z<|RG.Lh 0 0 Z<|.r 2<|.d<|T.rt func185 results185 (.bool (f.num==num)) ⟨(AG AF),Z.xt⟩
theorem JR (s:List Fil) (num:Int) (h1:RepS w F a1 n1 c1 s){bq_num:Nat}(hb_num:Box w bq_num 3 [.int .i64 num])  : Calls Tryz.prog 184 [.slice a1 n1 c1,.func (.func 185) #[] #[.pointer (some ⟨bq_num,0,none⟩)]].toArray w (Af fun rv w'=>rv=.int .i64 (DH num 0 s)∧Ext w w'):=by
 refine goT func184 ?_
 obtain ⟨rfl,az,h1⟩:=h1.tp
 refine .s<|.g<|.r 1<|.d<|.s<|.s<|.g<|.r 3<|.d<|.b 0<|T.loop (X:=Nat) 0 (fun k=>[(0,.slice a1 s.length c1),(1,.func (.func 185) #[] #[.pointer (some ⟨bq_num,0,none⟩)]),(7,vI (s.length:Int)),(8,vI (k:Int))]) (fun k ac=>Chg (ins []) w ac∧(k≤s.length)∧(DH num k (s.drop k)=DH num 0 s)) (fun k=>s.length - k) AA ⟨AA,AA,AA,AA,trivial⟩ ⟨Chg.refl _ _,AD,AD⟩ ?_
 rintro k aG ac ⟨aa,aA,aB⟩ ae
 have ag:Mv [] [] w ac:=Mv.inl aa all_nil all_nil
 replace ⟨h1,hb_num⟩:=(sp ag aa).g2 h1 hb_num
 have ab:Chg nil w ac:=Chg.O6 (Chg.refl nil w) aa all_nil
 refine .s<|.g<|.bp ((k:Int)< (s.length:Int)) (fun am=>?_) (fun am=>.d<|.s<|.cf<|.x 0 rfl<|.s<|.g<|.r 1<|.d<|.rt func184 results184 (vI (-1)) ⟨(congrArg (Value.int .i64) (by grind [DH,Aa])),ab⟩)
 refine .d<|.s<|.ct<|.sk<|.s<|.b 1<|.s<|.g<|.r 2<|.d<|.s<|.g<|.r 3 ?_
 have ao:k< s.length:=AB
 refine .ix k 3 h1 ao ?_
 obtain ⟨ai,af⟩:∃ y,s[k]? = some y:=⟨_,AU AB⟩
 have aC:=Ab af
 obtain ⟨_,⟨aH,aI,aJ,aK,aL,aM,rfl,aj,ak⟩,aq⟩:=h1.elem k ai af
 have ar:=aj.len
 subst ar
 have ax:=ak.len
 subst ax
 refine .lg 0 aq<|.cl (Is ai num aj.ta ak.ta hb_num (w:=ac) (F:=all)) ?_
 rintro aN aO ⟨rfl,ah⟩
 replace ⟨hb_num,ab,aa⟩:=(se [] ah).g3 hb_num ab aa
 cases aF:(ai.num==num)
 ·exact .d<|.cf<|.sk<|.ib 1<|.g<|.it ((k:Int)+1)<|.r 1<|.d<|ae (k+1) _ _ ⟨AA,AA,AA,AA,trivial⟩ ⟨aa,AB,(by grind [DH])⟩ AB
 exact .d<|.ct<|.s<|.g<|.r 2<|.d<|.rt func184 results184 (vI (k:Int)) ⟨(congrArg (Value.int .i64) (by grind [DH,Aa])),ab⟩
theorem CQ (d:Dsk) (num:Int) (h1:RepS w F a1 n1 c1 d.files) (h2:RepS w F a2 n2 c2 d.list) (h3:RepS w F a3 n3 c3 d.names)  : Calls Tryz.prog 131 [.agg #[.slice a1 n1 c1,.slice a2 n2 c2,.slice a3 n3 c3,.int .i64 d.next],.int .i64 num].toArray w (Af fun rv w'=>rv=.int .i64 (Al d num)∧Ext w w'):=by
 cases h1.len
 cases h2.len
 cases h3.len
 refine goT func131 ?_
 have Z:=(((St.i0 F w).p h1).p h2).p h3
 exact .s<|.g<|RG.Np Z fun ae w Z=>RG.Np Z fun af w Z=>.r 1<|.d<|.s<|.g<|.r 1<|RG.Lb 1 Z<|.r 1<|RG.C0 (JR d.files num (Z.a 2) (Z.bc 0)) Z fun w Z=>.r 1<|.d<|T.rt func131 results131 (vI (DH num 0 d.files)) ⟨(congrArg (Value.int .i64) AF),Z.xt⟩
theorem CY (s:List Int) (v:Int) (h1:RepS w F a1 n1 c1 s)  : Calls Tryz.prog 182 [.slice a1 n1 c1,.int .i64 v].toArray w (Af fun rv w'=>rv=.bool (s.contains v)∧Ext w w'):=by
 cases h1.len
 refine goT func182 ?_
 have Z:=(St.i0 F w).p h1
 exact .s<|.g<|.r 1<|.d<|.s<|.g<|.r 2<|RG.C0 (EG s v (Z.a 0)) Z fun w Z=>.r 2<|.d<|T.rt func182 results182 (.bool (decide (Ec v 0 s≥0))) ⟨(AG (by exact (UM v s 0).symm)),Z.xt⟩
end Go.Proofs.YtcginoabkicdiaaGreat
namespace Go.Proofs.YtcginoabkicdiaaGreat
theorem UR:∀ (is:List Int) (bs:List (List Row)) (o:Option Int),BU o is bs=true→is.length=bs.length→∀ is' bs',BU o is' bs'=true→is'.length=bs'.length→(∀ id:Int,Bd id is bs=Bd id is' bs')→is=is'∧bs=bs':=by
 have low:∀ (is:List Int) (bs:List (List Row)) (o:Option Int),BU o is bs=true→∀ q,o=some q→∀ i∈is,q< i:=by
  intro is
  induction is with
  | nil=>intro bs o _ q _ i hi; cases hi
  | cons x xs ih =>
    intro bs o hg q hq i hi
    cases bs with
    | nil=>simp [BU] at hg
    | cons b bs =>
      simp only [BU,AW] at hg
      have hx:q< x:=by have:=hg.1.1.1.2; rw [hq] at this; simpa using this
      rcases List.mem_cons.1 hi with rfl | hi
      ·exact hx
      ·have:=ih bs (some x) hg.2 x rfl i hi; omega
 have none_of:∀ (is:List Int) (bs:List (List Row)) (id:Int),(∀ i∈is,i≠id)→Bd id is bs=[]:=by
  intro is
  induction is with
  | nil=>intro bs id _; unfold Bd; rfl
  | cons i is ih =>
    intro bs id h
    cases bs with
    | nil=>unfold Bd; rfl
    | cons b bs =>
      unfold Bd
      rw [if_neg (by have:=h i AD; simpa using this)]
      exact ih bs id (fun j hj=>h j (by simp [hj]))
 have mem_of:∀ (is:List Int) (bs:List (List Row)) (id:Int),Bd id is bs≠[]→id∈is:=by
  intro is bs id h
  rcases Classical.em (id∈is) with h1 | h1
  ·exact h1
  ·exact absurd (none_of is bs id (fun i hi e=>h1 (e▸hi))) h
 intro is
 induction is with
 | nil =>
   intro bs o hg hl is' bs' hg' hl' h
   cases bs with
   | cons _ _=>simp at hl
   | nil =>
     cases is' with
     | nil =>
       cases bs' with
       | nil=>exact ⟨rfl,rfl⟩
       | cons _ _=>simp at hl'
     | cons i is' =>
       cases bs' with
       | nil=>simp at hl'
       | cons b bs' =>
         simp only [BU,AW,decide_eq_true_eq] at hg'
         have:=h i
         unfold Bd at this
         rw [if_pos AD] at this
         rw [← this] at hg'
         exact absurd hg'.1.1.2 AD
 | cons i is ih =>
   intro bs o hg hl is' bs' hg' hl' h
   cases bs with
   | nil=>simp at hl
   | cons b bs =>
     have hg0:=hg
     simp only [BU,AW,decide_eq_true_eq] at hg
     cases is' with
     | nil =>
       cases bs' with
       | cons _ _=>simp at hl'
       | nil =>
         have:=h i
         unfold Bd at this
         rw [if_pos AD] at this
         rw [this] at hg
         exact absurd hg.1.1.2 AD
     | cons i' is' =>
       cases bs' with
       | nil=>simp at hl'
       | cons b' bs' =>
         have hg0':=hg'
         simp only [BU,AW,decide_eq_true_eq] at hg'
         have a1:Bd i (i'::is') (b'::bs')=b:=by rw [← h i]; unfold Bd; rw [if_pos AD]
         have a2:Bd i' (i::is) (b::bs)=b':=by rw [h i']; unfold Bd; rw [if_pos AD]
         have m1:=mem_of _ _ i (by rw [a1]; exact List.ne_nil_of_length_pos hg.1.1.2)
         have m2:=mem_of _ _ i' (by rw [a2]; exact List.ne_nil_of_length_pos hg'.1.1.2)
         have hii:i=i':=by
          rcases List.mem_cons.1 m1 with e | e
          ·exact e
          ·rcases List.mem_cons.1 m2 with e2 | e2
           ·exact e2.symm
           ·have:=low is' bs' (some i') hg'.2 i' rfl i e
            have:=low is bs (some i) hg.2 i rfl i' e2
            omega
         subst hii
         have hbb:b=b':=by
          rw [← a1]
          unfold Bd
          rw [if_pos AD]
         subst hbb
         have:=ih bs (some i) hg.2 (by simpa using hl) is' bs' hg'.2 (by simpa using hl') (fun id=>by
          by_cases e:i=id
          ·subst e
           rw [none_of is bs i (fun j hj e=>by have:=low is bs (some i) hg.2 i rfl j hj; omega),none_of is' bs' i (fun j hj e=>by have:=low is' bs' (some i) hg'.2 i rfl j hj; omega)]
          ·have:=h id
           unfold Bd at this
           rw [if_neg (by simpa using e),if_neg (by simpa using e)] at this
           exact this)
         rw [this.1,this.2]
         exact ⟨rfl,rfl⟩
theorem Pu {p q:Prt}(hp:Ai p=true) (hq:Ai q=true) (h:∀ id:Int,partOf p id=partOf q id):p=q:=by
 unfold Ai at hp hq
 simp only [AW,decide_eq_true_eq] at hp hq
 obtain ⟨e1,e2⟩:=UR p.ids p.blocks none hp.2 hp.1 q.ids q.blocks hq.2 hq.1 h
 cases p
 cases q
 simp only [Prt.mk.injEq]
 exact ⟨e1,e2⟩
end Go.Proofs.YtcginoabkicdiaaGreat
namespace Go.Proofs.YtcginoabkicdiaaGreat
theorem WD.dd {w:Wld}(h:WD w):DD w.disk:=⟨NmG.of h.wi.dsk.nm h.dn,by have:=h.wi.dsk.nl; omega,h.wi.dsk.nf,h.wi.dsk.file,by have:=h.wi.dsk.next; omega⟩
end Go.Proofs.YtcginoabkicdiaaGreat
namespace Go.Proofs.YtcginoabkicdiaaGreat
theorem RG.b2s {P:Program}{n:Nat}{K:Env→World→Prop}{ops:Array Oper}{j:Nat}{e:Env}{w:World}{s d:TypeId}{r c:Nat}{y:UInt8}{t:TypeId}{F:Nat→Prop}
 (ho:Own w r t F 1 c [y]) (h:TY n ops j e=some (s,d,.slice (some ⟨r,0,none⟩) 1 c)) (ht:Vk P s d=true)
 (H:RG P n K ops (j+1) (Ag e (Ad ops j).dst (.string (bs [y]))) w):RG P n K ops j e w:=by
 obtain ⟨cs,h1,h2⟩:=ho.elem 0 y rfl
 cases h1
 have h3:Has w ⟨r,0,none⟩ [.int .u8 (y.toNat:Int)]:=by simpa using h2
 have h4:=Js (P:=P) (w:=w) h (L1 h3 ht)
 exact RG.val h4.1 h4.2 H
theorem Rw {n:Int}(h:0≤n∧n≤255):∃ y:UInt8,(y.toNat:Int)=n:=by
 refine ⟨UInt8.ofNat n.toNat,?_⟩
 rw [UInt8.toNat_ofNat']
 omega
theorem Ny {n:Int}{y:UInt8}(h:(y.toNat:Int)=n):Value.int .u8 (IntKind.u8.wrap n)=Value.int .u8 (y.toNat:Int):=by
 have:=UInt8.toNat_lt y
 rw [← h,IntWalk.u8_in _ AB]
def FT (n:Int):Int:=if n< 0 then -2 * n - 1 else 2 * n
theorem US {n m:Int}(h:-m≤n∧n≤m) (hm:0≤m):0≤FT n∧FT n≤2 * m:=by unfold FT; split <;> omega
theorem Rx {n:Int}(h:-10000≤n∧n≤10000):0≤FT n∧FT n≤1000000:=by have:=US h AB; omega
theorem Zm {r:Row}(h:BS r=true):-1000≤r.t∧r.t≤1000:=by have:=LO h; omega
theorem Zn {r:Row}(h:BS r=true):-1000≤r.v∧r.v≤1000:=by have:=RZ h; omega
theorem XS {a b:Bool}(h:(a&&b)=true):b=true:=by cases a <;> simp_all
theorem Pv {z:Int}(h:0≤z):0≤Int.tdiv z 128∧Int.tdiv z 128 * 128≤z∧0≤Int.tmod z 128∧Int.tmod z 128< 128:=by
 obtain ⟨k,rfl⟩:∃ k:Nat,z=k:=⟨z.toNat,by omega⟩
 have e:Int.tdiv (k:Int) 128=((k / 128:Nat):Int):=rfl
 have e2:Int.tmod (k:Int) 128=((k % 128:Nat):Int):=rfl
 rw [e,e2]
 omega
theorem JS:∀ (fs:List Fil) (nx:Int) (o:Option Int),Cm nx o fs=true→∀ f∈fs,1≤f.num∧f.num≤nx - 1∧Ai f.part=true:=by
 intro fs
 induction fs with
 | nil=>intro nx o _ f hf; cases hf
 | cons x xs ih =>
   intro nx o h f hf
   unfold Cm at h
   simp only [AW] at h
   rcases List.mem_cons.1 hf with rfl | hf
   ·have:=Bt h.1.1.1
    exact ⟨this.1,this.2,h.1.2⟩
   ·exact ih nx _ h.2 f hf
theorem Qx {p:Prt}(h:PrtI p) (hk:Ai p=true):BB p ⟨[],[]⟩=p:=by
 have hb:∀ id:Int,(partOf p id).length≤24:=fun id=>by
  have:=Eg hk id
  unfold Ax at this
  simp only [AW,decide_eq_true_eq] at this
  exact this.2
 have e:∀ id:Int,partOf (⟨[],[]⟩:Prt) id=[]:=fun id=>by unfold partOf Bd; rfl
 have hz:∀ id:Int,¬ (1≤id∧id≤6)→∀ q:Prt,Ai q=true→partOf q id=[]:=fun id hid q hq=>by
  unfold Ai at hq
  simp only [AW,decide_eq_true_eq] at hq
  have key:∀ (is:List Int) (bs:List (List Row)) (o:Option Int),BU o is bs=true→Bd id is bs=[]:=by
   intro is
   induction is with
   | nil=>intro bs o _; unfold Bd; rfl
   | cons i is ih =>
     intro bs o hg
     cases bs with
     | nil=>unfold Bd; rfl
     | cons b bs =>
       simp only [BU,AW] at hg
       have h5:=Bt hg.1.1.1.1
       unfold Bd
       rw [if_neg (by simp; omega)]
       exact ih bs _ hg.2
  exact key _ _ _ hq.2
 have hm:Ai (BB p ⟨[],[]⟩)=true:=by
  unfold BB
  refine Pd (fun b hb2=>?_) (by rw [D1]; omega)
  unfold BX at hb2
  obtain ⟨i,_,rfl⟩:=List.mem_map.1 hb2
  rw [e,MD]
  exact ⟨h.of _,hb _⟩
 refine Pu hm hk (fun id=>?_)
 by_cases hid:1≤id∧id≤6
 ·rw [Nv _ _ hid.1 hid.2,e,MD]
 ·rw [hz id hid _ hm,hz id hid _ hk]
theorem CN {d:Dsk}(h:Ak d=true):(1≤d.next∧d.next≤999)∧d.list.length≤6∧Cm d.next none d.files=true∧DO d=true:=by
 unfold Ak at h
 simp only [AW,decide_eq_true_eq] at h
 exact ⟨Bt h.1.1.1.1.1,h.1.1.1.2,h.1.1.2,h.1.2⟩
theorem DD.XT {d:Dsk}(h:DD d) (hk:Ak d=true):BL d=d:=by
 have hf:=(CN hk).2.2.1
 have:d.files.map Lx=d.files:=by
  have key:∀ f∈d.files,Lx f=f:=fun f hm=>by
   unfold Lx
   rw [Qx (h.file f hm) (JS _ _ _ hf f hm).2.2]
  exact (List.map_congr_left key).trans (List.map_id _)
 unfold BL
 rw [this]
theorem DD.di {d:Dsk}(h:DD d) (hk:Ak d=true):DskI d:=by
 obtain ⟨h1,h2,h3,h4⟩:=CN hk
 have hth:∀ n∈d.list,∃ f∈d.files,f.num=n:=fun n hn=>(Ga d n).1 (DP h4 n hn)
 refine ⟨(Cn hk).1,h.nf,h.file,h2,hth,fun n hn=>?_,h1⟩
 obtain ⟨f,hf,rfl⟩:=hth n hn
 have:=JS _ _ _ h3 f hf
 omega
theorem UT:(HR 0 [] []).length≤1000:=by decide
theorem UU:DD ⟨[],[],[],0⟩:=⟨⟨by simp,NsD.nil,UT⟩,by simp,by simp,by simp,by simp⟩
end Go.Proofs.YtcginoabkicdiaaGreat
namespace Go.Proofs.YtcginoabkicdiaaGreat
set_option maxRecDepth 100000
set_option maxHeartbeats 4000000
variable {w:World} {F:Nat→Prop}
theorem JT (n:Int){F:Nat→Prop}  (p0:-1000000≤n∧n≤1000000):Calls Tryz.prog 223 [.int .i64 n].toArray w (Af fun rv w'=>rv=.int .i64 (FT n)∧Ext w w'):=by
 refine goT func223 ?_
 have Z:=St.i0 F w
 exact .s<|.g<|.r 1<|.d<|.s<|.s<|.g<|.r 1<|.bp (n< 0) (fun aa=>.d<|.ct<|.s<|.g<|.r 1<|.it ((-2) * n)<|.it (((-2) * n) - 1)<|.r 1<|.d<|T.rt func223 results223 (vI (((-2) * n) - 1)) ⟨(congrArg (Value.int .i64) (by unfold FT; (rw [if_pos ‹_›]; done))),Z.xt⟩) fun aa=>.d<|.cf<|.sk<|.s<|.g<|.r 1<|.it (2 * n)<|.r 1<|.d<|T.rt func223 results223 (vI (2 * n)) ⟨(congrArg (Value.int .i64) (by unfold FT; (rw [if_neg ‹_›]; done))),Z.xt⟩
end Go.Proofs.YtcginoabkicdiaaGreat
namespace Go.Proofs.YtcginoabkicdiaaGreat
def EQ (z:Nat):Str:=if h:z< 128 then [UInt8.ofNat z] else UInt8.ofNat (z % 128+128)::EQ (z / 128)
termination_by z
decreasing_by omega
theorem KB {z:Nat}(h:z< 128):EQ z=[UInt8.ofNat z]:=by rw [EQ,dif_pos h]
theorem Iu {z:Nat}(h:¬ z< 128):EQ z=UInt8.ofNat (z % 128+128)::EQ (z / 128):=by rw [EQ,dif_neg h]
theorem Pw (z:Nat):0< (EQ z).length:=by rw [EQ]; split <;> simp
theorem KC {z:Nat}(h:z< 128):(EQ z).length=1:=by rw [KB h]; rfl
theorem Nz {z:Nat}(h:z< 16384):(EQ z).length≤2:=by
 by_cases h1:z< 128
 ·rw [KC h1]; omega
 ·rw [Iu h1,List.length_cons,KC AB]; omega
theorem Px {z:Nat}(h:z< 2097152):(EQ z).length≤3:=by
 by_cases h1:z< 128
 ·rw [KC h1]; omega
 ·rw [Iu h1,List.length_cons]
  have:=Nz (z:=z / 128) AB
  omega
theorem ofNat_inj {a b:Nat}(ha:a< 256) (hb:b< 256) (h:UInt8.ofNat a=UInt8.ofNat b):a=b:=by
 have:=congrArg UInt8.toNat h
 rw [UInt8.toNat_ofNat',UInt8.toNat_ofNat'] at this
 omega
theorem UW:∀ (z y:Nat) (r s:Str),EQ z++r=EQ y++s→z=y∧r=s:=by
 intro z
 induction z using Nat.strongRecOn with
 | ind z ih =>
   intro y r s h
   by_cases h1:z< 128
   ·by_cases h2:y< 128
    ·rw [KB h1,KB h2] at h
     simp only [List.cons_append,List.nil_append,List.cons.injEq] at h
     exact ⟨ofNat_inj AB AB h.1,h.2⟩
    ·rw [KB h1,Iu h2] at h
     simp only [List.cons_append,List.nil_append,List.cons.injEq] at h
     have:=ofNat_inj AB AB h.1
     omega
   ·by_cases h2:y< 128
    ·rw [Iu h1,KB h2] at h
     simp only [List.cons_append,List.nil_append,List.cons.injEq] at h
     have:=ofNat_inj AB AB h.1
     omega
    ·rw [Iu h1,Iu h2] at h
     simp only [List.cons_append,List.cons.injEq] at h
     have e:=ofNat_inj AB AB h.1
     obtain ⟨e2,e3⟩:=ih (z / 128) AB (y / 128) r s h.2
     exact ⟨by omega,e3⟩
theorem Wi {out:Str}{z y:Int}{Y:Str}(h:out++EQ z.toNat=Y) (hz:z≥128) (hy:y=Int.tmod z 128+128):(out++[UInt8.ofNat y.toNat])++EQ (Int.tdiv z 128).toNat=Y:=by
 obtain ⟨k,rfl⟩:∃ k:Nat,z=k:=⟨z.toNat,by omega⟩
 have e:Int.tdiv (k:Int) 128=((k / 128:Nat):Int):=rfl
 have e2:Int.tmod (k:Int) 128=((k % 128:Nat):Int):=rfl
 rw [e2] at hy
 have hk:¬ k< 128:=by omega
 have e3:((k:Int)).toNat=k:=by omega
 have e4:(((k / 128:Nat):Int)).toNat=k / 128:=Int.toNat_natCast _
 have e5:(((k % 128:Nat):Int)+128).toNat=k % 128+128:=by omega
 rw [e,← h,hy,e3,e4,e5,Iu hk,List.append_assoc]
 rfl
theorem YO {out:Str}{z:Int}{Y:Str}(h:out++EQ z.toNat=Y) (hz:¬ z≥128):out++[UInt8.ofNat z.toNat]=Y:=by
 rw [← h,KB AB]
theorem Py {out:Str}{z y:Int}(h:out++EQ z.toNat=EQ y.toNat) (hy:0≤y∧y≤1000000):out.length≤3:=by
 have:=congrArg List.length h
 rw [List.length_append] at this
 have:=Px (z:=y.toNat) AB
 omega
theorem UX {a b:Int}(h:(FT a).toNat=(FT b).toNat):a=b:=by
 unfold FT at h
 split at h <;> split at h <;> omega
def zp (i:Nat) (step d:Int):Nat:=(FT (if i< 2 then d else d - step)).toNat
def Br:Nat→Int→Int→List Int→Str
 | _,_,_,[]=>[]
 | i,last,step,x::xs=>EQ (zp i step (x - last))++Br (i+1) x (x - last) xs
theorem N1:∀ (xs ys:List Int) (i:Nat) (last step:Int),Br i last step xs=Br i last step ys→xs=ys:=by
 intro xs
 induction xs with
 | nil =>
   intro ys i last step h
   cases ys with
   | nil=>rfl
   | cons y ys =>
     have:=congrArg List.length h
     simp only [Br,List.length_nil,List.length_append] at this
     have:=Pw (zp i step (y - last))
     omega
 | cons x xs ih =>
   intro ys i last step h
   cases ys with
   | nil =>
     have:=congrArg List.length h
     simp only [Br,List.length_nil,List.length_append] at this
     have:=Pw (zp i step (x - last))
     omega
   | cons y ys =>
     simp only [Br] at h
     obtain ⟨e1,e2⟩:=UW _ _ _ _ h
     have e3:x=y:=by
      have:=UX e1
      split at this <;> omega
     subst e3
     rw [ih ys _ _ _ e2]
theorem YP {i:Nat}{step d:Int}(h:-3000≤step∧step≤3000) (hd:-3000≤d∧d≤3000):(EQ (zp i step d)).length≤2:=by
 refine Nz ?_
 unfold zp FT
 split <;> split <;> omega
theorem KD:∀ (l:List Int) (i:Nat) (last step:Int),(∀ x∈l,-1000≤x∧x≤1000)→(-1000≤last∧last≤1000)→(-2000≤step∧step≤2000)→(Br i last step l).length≤2 * l.length:=by
 intro l
 induction l with
 | nil=>intro i last step _ _ _; simp [Br]
 | cons x xs ih =>
   intro i last step h h1 h2
   simp only [Br,List.length_append,List.length_cons]
   have hx:=h x AD
   have a:=YP (i:=i) (step:=step) (d:=x - last) AB AB
   have b:=ih (i+1) x (x - last) (fun y hy=>h y (by simp [hy])) hx AB
   omega
theorem Pz {out Y:Str}{l:List Int}{i:Nat}{last step x y z:Int}(h:out++Br i last step (l.drop i)=Y) (hd:l.drop i=x::l.drop (i+1)) (hy:y=FT z) (hz:(i< 2∧z=x - last)∨(¬ i< 2∧z=x - last - step)):(out++EQ y.toNat)++Br (i+1) x (x - last) (l.drop (i+1))=Y:=by
 rw [hd] at h
 rw [← h,hy]
 simp only [Br]
 have e:(FT z).toNat=zp i step (x - last):=by
  unfold zp
  rcases hz with ⟨h1,h2⟩ | ⟨h1,h2⟩
  ·rw [if_pos h1,h2]
  ·rw [if_neg h1,h2]
 rw [e,List.append_assoc]
theorem Wj {out Y:Str}{l:List Int}{i:Nat}{last step:Int}(h:out++Br i last step (l.drop i)=Y) (hi:l.length≤i):out=Y:=by
 rw [Aa hi] at h
 simpa [Br] using h
theorem So {out:Str}{l:List Int}{i:Nat}{last step:Int}(h:out++Br i last step (l.drop i)=Br 0 0 0 l) (hl:∀ x∈l,-1000≤x∧x≤1000):out.length≤2 * l.length:=by
 have:=congrArg List.length h
 rw [List.length_append] at this
 have:=KD l 0 0 0 hl AB AB
 omega
theorem P0 {out:Str}{l:List Int}{i:Nat}{last step z:Int}(h:out++Br i last step (l.drop i)=Br 0 0 0 l) (hl:∀ x∈l,-1000≤x∧x≤1000) (hn:l.length≤1000) (h1:-10000≤z) (h2:z≤10000):out.length+(EQ (FT z).toNat).length≤9000000000000000000:=by
 have:=So h hl
 have:=US (n:=z) (m:=10000) ⟨h1,h2⟩ AB
 have:=Px (z:=(FT z).toNat) AB
 omega
theorem Wk {n:Int}{y:UInt8}(h:(y.toNat:Int)=n):y=UInt8.ofNat n.toNat:=by
 rw [← h,show ((y.toNat:Int)).toNat=y.toNat from Int.toNat_natCast _,UInt8.ofNat_toNat]
def XU (b:List Row):Str:=[UInt8.ofNat (Br 0 0 0 (b.map Row.t)).length]++Br 0 0 0 (b.map Row.t)++Br 0 0 0 (b.map Row.v)
def EZ (b:List Row):Str:=if Ax b=true then XU b else []
theorem UY {b:List Row}(h:Ax b=false):[]=EZ b:=by unfold EZ; rw [if_neg (by simp [h])]
theorem UZ {b:List Row}(h:Ax b=true):∀ x∈b.map Row.t,-1000≤x∧x≤1000:=fun x hx=>by
 obtain ⟨r,hr,rfl⟩:=List.mem_map.1 hx
 exact Zm ((HZ h).rows r hr)
theorem Ua {b:List Row}(h:Ax b=true):∀ x∈b.map Row.v,-1000≤x∧x≤1000:=fun x hx=>by
 obtain ⟨r,hr,rfl⟩:=List.mem_map.1 hx
 exact Zn ((HZ h).rows r hr)
theorem KE {b:List Row}(h:Ax b=true):(Br 0 0 0 (b.map Row.t)).length≤48:=by
 have:=KD (b.map Row.t) 0 0 0 (UZ h) AB AB
 rw [List.length_map] at this
 have:=bok h
 omega
theorem Sq {b:List Row}(h:Ax b=true):(Br 0 0 0 (b.map Row.v)).length≤48:=by
 have:=KD (b.map Row.v) 0 0 0 (Ua h) AB AB
 rw [List.length_map] at this
 have:=bok h
 omega
theorem Qy {b:List Row}{ts:List Int}{i:Nat}(h:ts++(b.drop i).map Row.t=b.map Row.t) (hi:b.length≤i) (hb:Ax b=true):(Br 0 0 0 ts).length≤48:=by
 rw [GY h hi]; exact KE hb
theorem YQ {b:List Row}{ts:List Int}{i:Nat}(h:ts++(b.drop i).map Row.v=b.map Row.v) (hi:b.length≤i) (hb:Ax b=true):(Br 0 0 0 ts).length≤48:=by
 rw [GY h hi]; exact Sq hb
theorem YR {b:List Row}{ts vs:List Int}{i:Nat}(h:ts++(b.drop i).map Row.t=b.map Row.t) (h2:vs++(b.drop i).map Row.v=b.map Row.v) (hi:b.length≤i) (hb:Ax b=true):UInt8.ofNat (Br 0 0 0 ts).length::(Br 0 0 0 ts++Br 0 0 0 vs)=EZ b:=by
 rw [GY h hi,GY h2 hi]
 unfold EZ; rw [if_pos hb]; rfl
theorem Ub:∀ (a b:List Row),a.map Row.t=b.map Row.t→a.map Row.v=b.map Row.v→a=b:=by
 intro a
 induction a with
 | nil=>intro b h _; cases b with | nil=>rfl | cons y ys=>simp at h
 | cons x xs ih =>
   intro b h1 h2
   cases b with
   | nil=>simp at h1
   | cons y ys =>
     simp only [List.map_cons,List.cons.injEq] at h1 h2
     obtain ⟨h3,h4⟩:=h1
     obtain ⟨h5,h6⟩:=h2
     rw [ih ys h4 h6]
     cases x
     cases y
     simp only [Row.mk.injEq] at *
     simp_all
theorem Su {a b:List Row}(ha:Ax a=true) (hb:Ax b=true) (h:EZ a=EZ b):a=b:=by
 unfold EZ at h
 rw [if_pos ha,if_pos hb] at h
 unfold XU at h
 simp only [List.cons_append,List.nil_append,List.cons.injEq] at h
 have e:=ofNat_inj (by have:=KE ha; omega) (by have:=KE hb; omega) h.1
 obtain ⟨e1,e2⟩:=List.append_inj h.2 e
 exact Ub a b (N1 _ _ _ _ _ e1) (N1 _ _ _ _ _ e2)
def CH (d:Dsk) (s:Sto):Bool:=Ak d&&(nmB s.idx.names&&Ae s)&&decide (s.parts=d.list.map (Ao d))&&decide (d.names=s.idx.names.take d.names.length)
theorem YS {d:Dsk}{s:Sto}(h:Ak d=false):false=CH d s:=by unfold CH; rw [h]; rfl
theorem Qz {d:Dsk}{s:Sto}(h:s.parts≠d.list.map (Ao d)):false=CH d s:=by unfold CH; rw [decide_eq_false h,Bool.and_false]; rfl
theorem Wl {d:Dsk}{s:Sto}(h:(s.parts.length:Int)≠d.list.length):false=CH d s:=Qz (fun e=>h (by rw [e,List.length_map]))
theorem Q0 {d:Dsk}{s:Sto}(h:d.names≠s.idx.names.take d.names.length):false=CH d s:=by unfold CH; rw [decide_eq_false h,Bool.and_false]
theorem Ry {d:Dsk}{s:Sto}(h:(s.idx.names.length:Int)< d.names.length):false=CH d s:=Q0 (fun e=>by
 have:=congrArg List.length e
 rw [List.length_take] at this
 omega)
theorem YT {d:Dsk}{s:Sto}{k:Nat}{a b:List Tag}(ha:d.names[k]? = some a) (hb:s.idx.names[k]? = some b) (h:(text a==text b)=false):false=CH d s:=Q0 (fun e=>(beq_eq_false_iff_ne.1 h) (by
 have hk:=(List.getElem?_eq_some_iff.1 ha).1
 have h2:d.names[k]? = (s.idx.names.take d.names.length)[k]? := congrArg (fun l=>l[k]?) e
 rw [List.getElem?_take,if_pos hk,ha,hb] at h2
 cases h2
 rfl))
theorem MG {d:Dsk}{s:Sto}(h1:Ak d=true) (h2:(nmB s.idx.names&&Ae s)=true) (h3:s.parts=d.list.map (Ao d)) (h4:d.names=s.idx.names.take d.names.length):true=CH d s:=by unfold CH; rw [h1,h2,decide_eq_true h3,decide_eq_true h4]; rfl
structure Fits (d:Dsk) (s:Sto):Prop where
 dk:Ak d=true
 nm:nmB s.idx.names=true
 sk:Ae s=true
 p:s.parts=d.list.map (Ao d)
 m:d.names=s.idx.names.take d.names.length
theorem Ci {d:Dsk}{s:Sto}(h:CH d s=true):Fits d s:=by
 unfold CH at h
 simp only [AW,decide_eq_true_eq] at h
 exact ⟨h.1.1.1,h.1.1.2.1,h.1.1.2.2,h.1.2,h.2⟩
def Uc (d:Dsk) (s:Sto) (k:Nat):Prop:=∀ j a b,j< k→d.names[j]? = some a→s.idx.names[j]? = some b→text a=text b
theorem YU (d:Dsk) (s:Sto):Uc d s 0:=fun j _ _ h=>absurd h AB
theorem YV {d:Dsk}{s:Sto}{k:Nat}{a b:List Tag}(h:Uc d s k) (ha:d.names[k]? = some a) (hb:s.idx.names[k]? = some b) (e:(text a==text b)=true):Uc d s (k+1):=fun j x y hj hx hy=>by
 by_cases e1:j=k
 ·subst e1
  rw [ha] at hx
  rw [hb] at hy
  cases hx
  cases hy
  exact eq_of_beq e
 ·exact h j x y AB hx hy
theorem YW {d:Dsk}{s:Sto}{k:Nat}(h:Uc d s k) (hk:d.names.length≤k) (hd:NmI d.names) (hs:NmI s.idx.names) (hl:d.names.length≤s.idx.names.length):d.names=s.idx.names.take d.names.length:=by
 apply List.ext_getElem?
 intro j
 by_cases hj:j< d.names.length
 ·rw [List.getElem?_take,if_pos hj]
  have ha:=AU hj
  have hb:=AU (l:=s.idx.names) (i:=j) AB
  rw [ha,hb,MA (hd.ok _ (List.getElem_mem _)) (hs.ok _ (List.getElem_mem _)) (h j _ _ AB ha hb)]
 ·rw [List.getElem?_eq_none AB,List.getElem?_eq_none (by rw [List.length_take]; omega)]
def Ud (d:Dsk) (s:Sto) (k:Nat):Prop:=∀ j n q,j< k→d.list[j]? = some n→s.parts[j]? = some q→Ao d n=q
theorem YX (d:Dsk) (s:Sto):Ud d s 0:=fun j _ _ h=>absurd h AB
theorem YY {d:Dsk}{s:Sto}{k:Nat}(h:Ud d s k) (hk:d.list.length≤k) (hl:(s.parts.length:Int)=d.list.length):s.parts=d.list.map (Ao d):=by
 apply List.ext_getElem?
 intro j
 by_cases hj:j< d.list.length
 ·have ha:=AU hj
  have hb:=AU (l:=s.parts) (i:=j) AB
  rw [List.getElem?_map,ha,hb,← h j _ _ AB ha hb]
  rfl
 ·rw [List.getElem?_eq_none AB,List.getElem?_eq_none (by rw [List.length_map]; omega)]
def Ue (d:Dsk) (s:Sto) (k:Nat) (k1:Int):Prop:=∀ n q,d.list[k]? = some n→s.parts[k]? = some q→∀ id:Int,1≤id→id< k1→partOf (Ao d n) id=partOf q id
theorem YZ (d:Dsk) (s:Sto) (k:Nat):Ue d s k 1:=fun _ _ _ _ id h1 h2=>absurd h1 AB
theorem N2 {d:Dsk}(h:Ak d=true) (n:Int):Ai (Ao d n)=true:=by
 unfold Ao
 rw [List.getD_eq_getElem?_getD]
 cases hx:d.files[(Al d n).toNat]? with
 | none=>rfl
 | some f=>exact (JS _ _ _ (CN h).2.2.1 f (AV hx)).2.2
theorem Ya {d:Dsk}{s:Sto}{k:Nat}{k1:Int}{n:Int}{q:Prt}{f:Fil}(h:Ue d s k k1) (hk:Ak d=true) (hs:Ae s=true) (hss:SD s) (hn:d.list[k]? = some n) (hq:s.parts[k]? = some q) (hf:d.files[(Al d n).toNat]? = some f) (e:(EZ (partOf f.part k1)==EZ (partOf q k1))=true):Ue d s k (k1+1):=fun m r hm hr id h1 h2=>by
 rw [hn] at hm
 rw [hq] at hr
 cases hm
 cases hr
 by_cases e1:id=k1
 ·subst e1
  have e2:=DR hf
  have a:Ax (partOf f.part id)=true:=Eg (by rw [← e2]; exact N2 hk n) id
  have b:Ax (partOf q id)=true:=Eg ((StoK.of hss hs).part q (AV hq)).2 id
  rw [e2]
  exact Su a b (eq_of_beq e)
 ·exact h n q hn hq id h1 AB
theorem Yb {d:Dsk}{s:Sto}{k:Nat}{k1 n:Int}{q:Prt}{f:Fil}(hn:d.list[k]? = some n) (hq:s.parts[k]? = some q) (hf:d.files[(Al d n).toNat]? = some f) (e:(EZ (partOf f.part k1)==EZ (partOf q k1))=false):false=CH d s:=Qz (fun e2=>(beq_eq_false_iff_ne.1 e) (by
 have h2:s.parts[k]? = (d.list.map (Ao d))[k]? := congrArg (fun l=>l[k]?) e2
 rw [List.getElem?_map,hn,hq] at h2
 have h3:=Option.some.inj h2
 rw [h3,DR hf]))
theorem P1 {p:Prt}(h:Ai p=true){id:Int}(hid:¬ (1≤id∧id≤6)):partOf p id=[]:=by
 unfold Ai at h
 simp only [AW,decide_eq_true_eq] at h
 have key:∀ (is:List Int) (bs:List (List Row)) (o:Option Int),BU o is bs=true→Bd id is bs=[]:=by
  intro is
  induction is with
  | nil=>intro bs o _; unfold Bd; rfl
  | cons i is ih =>
    intro bs o hg
    cases bs with
    | nil=>unfold Bd; rfl
    | cons b bs =>
      simp only [BU,AW] at hg
      have h5:=Bt hg.1.1.1.1
      unfold Bd
      rw [if_neg (by simp; omega)]
      exact ih bs _ hg.2
 exact key _ _ _ h.2
theorem Sv {p q:Prt}(hp:Ai p=true) (hq:Ai q=true) (h:∀ id:Int,1≤id→id≤6→partOf p id=partOf q id):p=q:=Pu hp hq (fun id=>by
 by_cases hid:1≤id∧id≤6
 ·exact h id hid.1 hid.2
 ·rw [P1 hp hid,P1 hq hid])
theorem Yc {d:Dsk}{s:Sto}{k:Nat}{k1:Int}(h:Ud d s k) (hi:Ue d s k k1) (h7:¬ k1≤6) (hk:Ak d=true) (hs:Ae s=true) (hss:SD s):Ud d s (k+1):=fun j n q hj hn hq=>by
 by_cases e1:j=k
 ·subst e1
  exact Sv (N2 hk n) ((StoK.of hss hs).part q (AV hq)).2 (fun id h1 h2=>hi n q hn hq id h1 AB)
 ·exact h j n q AB hn hq
def At (d:Dsk) (s:Sto):List Stp:=if CH d s then BF d s else []
theorem FU {d:Dsk}{s:Sto}(h:CH d s=true):At d s=BF d s:=by unfold At; rw [if_pos h]
theorem P2 {d:Dsk}{s:Sto}(h:CH d s=false):At d s=[]:=by unfold At; rw [if_neg (by simp [h])]
end Go.Proofs.YtcginoabkicdiaaGreat
namespace Go.Proofs.YtcginoabkicdiaaGreat
set_option maxRecDepth 100000
set_option maxHeartbeats 4000000
variable {w:World} {F:Nat→Prop} {a1:Option Addr} {n1 c1:Nat}
theorem FV (n:Int){F:Nat→Prop}  (p0:0≤n∧n≤255):Calls Tryz.prog 200 [.int .i64 n].toArray w (Af fun rv w'=>rv=.string (bs ([UInt8.ofNat n.toNat]))∧Ext w w'):=by
 refine goT func200 ?_
 have Z:=St.i0 F w
 refine .s<|.g<|.r 1<|.d<|.s<|.g<|.r 1 ?_
 obtain ⟨aa,ab⟩:∃ y:UInt8,(y.toNat:Int)=n:=Rw AB
 exact RG.eqv (v:=.int .u8 (aa.toNat:Int)) (v':=.int .u8 (IntKind.u8.wrap n)) AA (Ny ab)<|RG.Nl 0 ([aa]:List UInt8) [] Z fun ac w Z=>RG.b2s (s:=180) (d:=9) (y:=aa) (Z.ow 0 ([aa]:List UInt8) AA).1 AA AA<|.r 1<|.d<|T.rt func200 results200 (.string (bs [aa])) ⟨(congrArg (fun s=>Value.string (bs s)) (by rw [List.cons.injEq]; exact ⟨Wk ‹_›,rfl⟩)),Z.xt⟩
theorem IP (z:Int){F:Nat→Prop}  (p0:0≤z∧z≤1000000):Calls Tryz.prog 222 [.int .i64 z].toArray w (Af fun rv w'=>rv=.string (bs (EQ z.toNat))∧Ext w w'):=by
 refine goT func222 ?_
 have Z:=St.i0 F w
 refine .s<|.g<|.r 1<|.d<|.s<|.g<|.r 1<|.d<|.s<|.b 0<|T.Lp (z,[]) (fun (z1,out)=>([(0,vI z1),(3,vT out)],[],[],z1.toNat,(0≤z1∧z1≤1000000)∧(out++EQ z1.toNat=EQ z.toNat))) [] Z ⟨AB,AF⟩ ?_
 rintro ⟨z1,out⟩ ah w Z ⟨af,ag⟩ ab
 exact .s<|.s<|.g<|.r 1<|.bp (z1≥128) (fun ae=>.d<|.ct<|.sk<|.b 1<|.s<|.g<|.r 3<|RG.int (Int.tmod z1 128+128) AA (by (have q1:=Pv (z:=z1) AB; omega))<|RG.C0 (FV (Int.tmod z1 128+128) (by (have q1:=Pv (z:=z1) AB; omega)) (F:=all)) Z fun w Z=>RG.cat (t:=9) (s:=out) (u:=[UInt8.ofNat (Int.tmod z1 128+128).toNat]) AA (by have q1:=Py ‹_› p0; simp only [List.length_cons,List.length_nil]; omega)<|.r 1<|.d<|.g<|.r 1<|RG.quo (t:=3) (a:=z1) (b:=128) AA AB (by (have q1:=Pv (z:=z1) AB; omega))<|.r 1<|.d<|.ib 1<|ab ((Int.tdiv z1 128),(out++[UInt8.ofNat (Int.tmod z1 128+128).toNat])) _ _ AA (Z.to 0 [] 0) ⟨(by have q1:=Pv (z:=z1) AB; omega),(by exact Wi ‹_› AB rfl)⟩ (by simp only []; have q1:=Pv (z:=z1) AB; omega)) fun ae=>.d<|.cf<|.x 0 rfl<|.s<|.g<|.r 2<|RG.C0 (FV z1 AB (F:=all)) Z fun w Z=>RG.cat (t:=9) (s:=out) (u:=[UInt8.ofNat z1.toNat]) AA (by have q1:=Py ‹_› p0; simp only [List.length_cons,List.length_nil]; omega)<|.r 1<|.d<|T.rt func222 results222 (.string (bs (out++[UInt8.ofNat z1.toNat]))) ⟨(congrArg (fun s=>Value.string (bs s)) (by exact YO ‹_› AB)),Z.xt⟩
theorem Hb (list:List Int) (h1:RepS w F a1 n1 c1 list) (p0:list.length≤1000) (p1:∀ x∈list,-1000≤x∧x≤1000):Calls Tryz.prog 199 [.slice a1 n1 c1].toArray w (Af fun rv w'=>rv=.string (bs (Br 0 0 0 list))∧Ext w w'):=by
 cases h1.len
 refine goT func199 ?_
 have Z:=(St.i0 F w).p h1
 refine .s<|.g<|.r 1<|.d<|.s<|.g<|.r 1<|.d<|.s<|.g<|.r 1<|.d<|.s<|.g<|.r 1<|.d<|.s<|.s<|.g<|.r 1<|.d<|.b 0<|T.Lp ([],(0:Int),(0:Int),(0:Nat)) (fun (out,last,step,i)=>([(0,.slice a1 list.length c1),(3,vT out),(4,vI last),(5,vI step),(6,vI (i:Int))],[],[],list.length - i,(i≤list.length)∧(-1000≤last∧last≤1000)∧(-2000≤step∧step≤2000)∧(out++Br i last step (list.drop i)=Br 0 0 0 list))) [] Z ⟨AB,AB,AB,AF⟩ ?_
 rintro ⟨out,last,step,i⟩ ar w Z ⟨aj,ak,am,ao⟩ ac
 refine .s<|.s<|.g<|.r 3<|.bp ((i:Int)< (list.length:Int)) (fun af=>?_) (fun af=>.d<|.cf<|.x 0 rfl<|.s<|.g<|.r 2<|.d<|T.rt func199 results199 (vT out) ⟨(congrArg (fun s=>Value.string (bs s)) (by exact Wj ‹_› AB)),Z.xt⟩)
 refine .d<|.ct<|.sk<|.s<|.b 1<|.s<|.g<|.r 2<|gx list i fun aa ab=>?_
 have aq:=Ab ab; have ah:=AV ab
 exact RG.Ix 0 ab Z<|Z.el 0 ab fun Z=>RG.Lh 0 0 Z<|.r 1<|RG.int (aa - last) AA (by (have q1:=p1 _ ‹_›; omega))<|.r 1<|.d<|.s<|.s<|.g<|.r 1<|.bp ((i:Int)< 2) (fun ag=>.d<|.ct<|.g<|.r 2<|RG.C0 (JT (aa - last) (by have q1:=p1 _ ‹_›; omega) (F:=all)) Z fun w Z=>RG.C0 (IP (FT (aa - last)) (by have q1:=p1 _ ‹_›; exact Rx AB) (F:=all)) Z fun w Z=>RG.cat (t:=9) (s:=out) (u:=EQ (FT (aa - last)).toNat) AA (by have q2:=p1 _ ‹_›; exact P0 ‹_› p1 p0 AB AB)<|.r 1<|.d<|.s<|.g<|.r 2<|.d<|.g<|.r 2<|RG.Ix 1 ab Z<|RG.Lh 0 0 Z<|.r 1<|.d<|.ib 1<|.g<|.r 1<|RG.int ((i:Int)+1) AA AB<|.r 1<|.d<|ac ((out++(EQ (FT (aa - last)).toNat)),aa,aa - last,i+1) _ _ AA (Z.to 0 [] 1) ⟨AB,(by exact p1 _ ‹_›),(by have q1:=p1 _ ‹_›; omega),(by exact Pz ‹_› ‹_› rfl (by exact .inl ⟨by omega,rfl⟩))⟩ (by (simp only []; omega))) fun ag=>.d<|.cf<|.g<|.r 3<|RG.int ((aa - last) - step) AA (by (have q1:=p1 _ ‹_›; omega))<|RG.C0 (JT ((aa - last) - step) (by have q1:=p1 _ ‹_›; omega) (F:=all)) Z fun w Z=>RG.C0 (IP (FT ((aa - last) - step)) (by have q1:=p1 _ ‹_›; exact Rx AB) (F:=all)) Z fun w Z=>RG.cat (t:=9) (s:=out) (u:=EQ (FT ((aa - last) - step)).toNat) AA (by have q2:=p1 _ ‹_›; exact P0 ‹_› p1 p0 AB AB)<|.r 1<|.d<|.s<|.g<|.r 2<|.d<|.g<|.r 2<|RG.Ix 1 ab Z<|RG.Lh 0 0 Z<|.r 1<|.d<|.ib 1<|.g<|.r 1<|RG.int ((i:Int)+1) AA AB<|.r 1<|.d<|ac ((out++(EQ (FT ((aa - last) - step)).toNat)),aa,aa - last,i+1) _ _ AA (Z.to 0 [] 1) ⟨AB,(by exact p1 _ ‹_›),(by have q1:=p1 _ ‹_›; omega),(by exact Pz ‹_› ‹_› rfl (by exact .inr ⟨by omega,rfl⟩))⟩ (by (simp only []; omega))
theorem Fi (b:List Row) (h1:RepS w F a1 n1 c1 b) (p0:b.length≤1000):Calls Tryz.prog 151 [.slice a1 n1 c1].toArray w (Af fun rv w'=>rv=.string (bs (EZ b))∧Ext w w'):=by
 cases h1.len
 refine goT func151 ?_
 have Z:=(St.i0 F w).p h1
 refine .s<|.g<|.r 1<|.d<|.s<|.s<|.g<|.r 1<|RG.C0 (FK b (Z.a 0)) Z fun w Z=>?_
 cases aq:(Ax b)
 ·exact .r 1<|.d<|.ct<|.s<|.g<|.r 1<|.d<|T.rt func151 results151 (.string (bs [])) ⟨(congrArg (fun s=>Value.string (bs s)) (by exact UY ‹_›)),Z.xt⟩
 refine .r 1<|.d<|.cf<|.sk<|.s<|.g<|RG.N0 Int 0 Z fun ag w Z=>.r 1<|.d<|.s<|.g<|RG.N0 Int 0 Z fun ah w Z=>.r 1<|.d<|.s<|.s<|.g<|.r 1<|.d<|.b 0<|T.Lp (([]:List Int),ag,(0:Nat),([]:List Int),ah,(0:Nat),(0:Nat)) (fun (ts,r_ts,c_ts,vs,r_vs,c_vs,i)=>([(0,.slice a1 b.length c1),(3,vS r_ts ts.length c_ts),(4,vS r_vs vs.length c_vs),(5,vI (i:Int))],[(0,.own 0 r_vs 3 c_vs vs),(1,.own 0 r_ts 3 c_ts ts)],[],b.length - i,(i≤b.length)∧(ts.length=i)∧(vs.length=i)∧(ts++(b.drop i).map Row.t=b.map Row.t)∧(vs++(b.drop i).map Row.v=b.map Row.v))) [] Z ⟨AB,AF,AF,AF,AF⟩ ?_
 rintro ⟨ts,r_ts,c_ts,vs,r_vs,c_vs,i⟩ aE w Z ⟨ar,ax,ay,az,aA⟩ ab
 refine .s<|.s<|.g<|.r 3<|.bp ((i:Int)< (b.length:Int)) (fun ae=>?_) (fun ae=>.d<|.cf<|.x 0 rfl<|.s<|.g<|.r 1<|RG.C0 (Hb ts (Z.oa 1) AB (by exact GY (by assumption:_++(b.drop _).map Row.t=_) AB▸UZ ‹_›)) Z fun w Z=>.r 1<|.d<|.s<|.g<|.r 1<|RG.eqv (v:=vI ((Br 0 0 0 ts).length:Int)) AA (Ld (Br 0 0 0 ts))<|RG.C0 (FV ((Br 0 0 0 ts).length:Int) (by have q1:=Qy ‹_› AB (by assumption:Ax b=true); omega) (F:=all)) Z fun w Z=>.r 1<|RG.cat (t:=9) (s:=[UInt8.ofNat ((Br 0 0 0 ts).length:Int).toNat]) (u:=Br 0 0 0 ts) AA (by have q1:=Qy ‹_› AB (by assumption:Ax b=true); (simp only [List.length_append,List.length_cons,List.length_nil]; omega))<|.r 1<|RG.C0 (Hb vs (Z.oa 0) AB (by exact GY (by assumption:_++(b.drop _).map Row.v=_) AB▸Ua ‹_›)) Z fun w Z=>RG.cat (t:=9) (s:=([UInt8.ofNat ((Br 0 0 0 ts).length:Int).toNat]++(Br 0 0 0 ts))) (u:=Br 0 0 0 vs) AA (by have q1:=Qy ‹_› AB (by assumption:Ax b=true); have q2:=YQ ‹_› AB (by assumption:Ax b=true); (simp only [List.length_append,List.length_cons,List.length_nil]; omega))<|.r 1<|.d<|T.rt func151 results151 (.string (bs (([UInt8.ofNat ((Br 0 0 0 ts).length:Int).toNat]++(Br 0 0 0 ts))++(Br 0 0 0 vs)))) ⟨(congrArg (fun s=>Value.string (bs s)) (by exact YR ‹_› ‹_› AB ‹_›)),Z.xt⟩)
 refine .d<|.ct<|.sk<|.s<|.b 1<|.s<|.g<|.r 3<|gx b i fun ac aa=>?_
 have aD:=Ab aa
 exact RG.Ix 0 aa Z<|.r 1<|Z.el 0 aa fun Z=>RG.Lh 0 0 Z<|RG.Nb 1 Z fun aF w Z=>RG.Ap 1 0 ts ac.t [] Z fun ai aj w Z=>.r 1<|.d<|.g<|.r 3<|RG.Ix 1 aa Z<|.r 1<|RG.Lh 0 1 Z<|RG.Nb 1 Z fun aG w Z=>RG.Ap 0 0 vs ac.v [] Z fun ak am w Z=>.r 1<|.d<|.ib 1<|.g<|.r 1<|.it ((i:Int)+1)<|.r 1<|.d<|ab ((ts++[ac.t]),ai,aj,(vs++[ac.v]),ak,am,i+1) _ _ AA (Z.to 0 [] 1) ⟨AB,(by (simp; omega)),(by (simp; omega)),(by exact mapStep ‹_› ‹_› rfl),(by exact mapStep ‹_› ‹_› rfl)⟩ (by (simp only []; omega))
end Go.Proofs.YtcginoabkicdiaaGreat
namespace Go.Proofs.YtcginoabkicdiaaGreat
theorem Yd {d:Dsk}{s y:Sto}(hy:FR d y) (h:(s.parts==y.parts)=false):false=CH d s:=Qz (fun e=>by
 have e2:s.parts=y.parts:=e.trans hy.2.1.symm
 rw [e2] at h
 simp at h)
theorem Ye {d:Dsk}{s y:Sto}(hy:FR d y) (h:(s.parts==y.parts)=true):s.parts=d.list.map (Ao d):=(eq_of_beq h).trans hy.2.1
theorem Yf {d:Dsk}{s:Sto}(h:¬ (d.names.length:Int)≤s.idx.names.length):false=CH d s:=Ry AB
theorem Yg {d:Dsk}{s y:Sto}{l:List (List Tag)}(hy:FR d y) (h1:Ak d=true) (h2:(nmB s.idx.names&&Ae s)=true) (h3:(s.parts==y.parts)=true) (hl:l=s.idx.names.take d.names.length):(d.names==l)=CH d s:=by
 subst hl
 by_cases e:d.names=s.idx.names.take d.names.length
 ·rw [beq_iff_eq.2 e]
  exact MG h1 h2 (Ye hy h3) e
 ·rw [beq_eq_false_iff_ne.2 e]
  exact Q0 e
def E0 (d:Dsk):Bool:=(d.next==999) || decide ((d.files.length:Int)=20)
theorem Wm {d:Dsk}(h:(d.next==999)=true):true=E0 d:=by unfold E0; rw [h]; rfl
theorem Uf {d:Dsk}(h:d.next=999):true=E0 d:=Wm (by simp [h])
theorem Wn {d:Dsk}(h:¬ d.next=999):((d.files.length:Int)==20)=E0 d:=by unfold E0; rw [beq_eq_false_iff_ne.2 h,Bool.false_or]; by_cases e:(d.files.length:Int)=20 <;> simp [e]
theorem Rz {d:Dsk}(h:E0 d=false):¬ d.next=999∧¬ (d.files.length:Int)=20:=by
 unfold E0 at h
 simpa using h
theorem R0 {d:Dsk}(h:E0 d=true):d.next=999∨(d.files.length:Int)=20:=by
 unfold E0 at h
 simpa using h
theorem Zo {d:Dsk}{s:Sto}(h:CH d s=false):[]=At d s:=(P2 h).symm
theorem Yh {d:Dsk}{s:Sto}(h:(s.mem.length:Int)=0∨(d.list.length:Int)=6∨E0 d=true):[]=At d s:=by
 cases hf:CH d s with
 | false=>exact Zo hf
 | true =>
   rw [FU hf,FM]
   rcases h with h | h | h
   ·exact .inl h
   ·exact .inr (.inl AB)
   ·rcases R0 h with h | h
    ·exact .inr (.inr (.inl AB))
    ·exact .inr (.inr (.inr AB))
theorem P3 {d:Dsk}{s:Sto}(hf:CH d s=true) (h1:¬ (s.mem.length:Int)=0) (h2:¬ (d.list.length:Int)=6) (h3:E0 d=false) (hd:DD d):[⟨1,d.next,Ah s.mem,[],[]⟩,⟨2,0,⟨[],[]⟩,d.list++[d.next],s.idx.names⟩]=At d s:=by
 have hk:=(Ci hf).dk
 have:=(CN hk).2.1
 have:=(CN hk).1
 have:=hd.nf
 have:=Rz h3
 rw [FU hf,DL h1 AB AB AB]
theorem C8 {d:Dsk}{s:Sto}(hs:SG s) (h:CH d s=true):SD s:=by
 obtain ⟨h1,h2,h3,h4,h5⟩:=Ci h
 exact hs.sd h2 (Oh h3)
end Go.Proofs.YtcginoabkicdiaaGreat
namespace Go.Proofs.YtcginoabkicdiaaGreat
set_option maxRecDepth 100000
set_option maxHeartbeats 4000000
variable {w:World} {F:Nat→Prop} {a1 a2 a3 a4:Option Addr} {n1 c1 n2 c2 n3 c3 n4 c4:Nat}
theorem ER (a:List Row) (b:List Row) (h1:RepS w F a1 n1 c1 a) (h2:RepS w F a2 n2 c2 b)  : Calls Tryz.prog 205 [.slice a1 n1 c1,.slice a2 n2 c2].toArray w (Af fun rv w'=>rv=.bool ((a==b))∧Ext w w'):=by
 cases h1.len
 cases h2.len
 refine goT func205 ?_
 have Z:=((St.i0 F w).p h1).p h2
 have ak:=h1.max
 refine .s<|.g<|.r 1<|.d<|.s<|.s<|.g<|.r 4<|.ne (a.length:Int) (b.length:Int) (fun ae=>.d<|.ct<|.s<|.g<|.r 1<|.d<|T.rt func205 results205 (.bool false) ⟨(AG (by grind [Aa])),Z.xt⟩) fun ae=>.d<|.cf<|.sk<|.s<|.s<|.g<|.r 3<|.d<|.b 0<|T.Lp (0:Nat) (fun k=>([(0,.slice a1 a.length c1),(1,.slice a2 b.length c2),(12,vI (a.length:Int)),(13,vI (k:Int))],[],[],a.length - k,(k≤a.length)∧(a.drop k=b.drop k↔a=b))) [] Z ⟨AD,AD⟩ ?_
 rintro k az w Z ⟨ao,aq⟩ ac
 refine .s<|.g<|.bp ((k:Int)< (a.length:Int)) (fun af=>?_) (fun af=>.d<|.s<|.cf<|.x 0 rfl<|.s<|.g<|.r 1<|.d<|T.rt func205 results205 (.bool true) ⟨(AG (by grind [Aa])),Z.xt⟩)
 refine .d<|.s<|.ct<|.sk<|.s<|.b 1<|.s<|.g<|.r 2<|.d<|.s<|T.Gd 8 Z fun w Z=>.r [0,1]<|gx a k fun ag aa=>?_
 have ar:=Ab aa
 refine GA.Ix 2 1 aa Z<|Z.el 1 aa fun Z=>GA.Lg 3 0 0 Z<|.r [4,5]<|gx b k fun ah ab=>?_
 have ax:=Ab ab
 refine GA.Ix 6 1 ab Z<|Z.el 1 ab fun Z=>GA.Lg 7 0 0 Z<|GA.Dn Z fun w Z=>RG.XE (t:=70) (x:=ag) (y:=ah) AA AA ?_
 cases ay:(ag==ah)
 ·exact .d<|.ct<|.s<|.g<|.r 1<|.d<|T.rt func205 results205 (.bool false) ⟨(AG (by grind [Aa])),Z.xt⟩
 exact .d<|.cf<|.sk<|.ib 1<|.g<|.it ((k:Int)+1)<|.r 1<|.d<|ac (k+1) _ _ AA (Z.to 0 [] 2) ⟨AB,(by grind)⟩ (by (simp only []; omega))
theorem Iv (s1:List (List Row)) (s2:List (List Row)) (h1:RepS w F a1 n1 c1 s1) (h2:RepS w F a2 n2 c2 s2)  : Calls Tryz.prog 204 [.slice a1 n1 c1,.slice a2 n2 c2,.func (.func 205) #[] #[]].toArray w (Af fun rv w'=>rv=.bool ((s1==s2))∧Ext w w'):=by
 cases h1.len
 cases h2.len
 refine goT func204 ?_
 have Z:=((St.i0 F w).p h1).p h2
 have ak:=h1.max
 refine .s<|.g<|.r 1<|.d<|.s<|.s<|.g<|.r 4<|.ne (s1.length:Int) (s2.length:Int) (fun ae=>.d<|.ct<|.s<|.g<|.r 1<|.d<|T.rt func204 results204 (.bool false) ⟨(AG (by grind [Aa])),Z.xt⟩) fun ae=>.d<|.cf<|.sk<|.s<|.s<|.g<|.r 3<|.d<|.b 0<|T.Lp (0:Nat) (fun k=>([(1,.slice a2 s2.length c2),(2,.func (.func 205) #[] #[]),(15,.slice a1 s1.length c1),(16,vI (s1.length:Int)),(17,vI (k:Int))],[],[],s1.length - k,(k≤s1.length)∧(s1.drop k=s2.drop k↔s1=s2))) [] Z ⟨AD,AD⟩ ?_
 rintro k az w Z ⟨ao,aq⟩ ac
 refine .s<|.g<|.bp ((k:Int)< (s1.length:Int)) (fun af=>?_) (fun af=>.d<|.s<|.cf<|.x 0 rfl<|.s<|.g<|.r 1<|.d<|T.rt func204 results204 (.bool true) ⟨(AG (by grind [Aa])),Z.xt⟩)
 refine .d<|.s<|.ct<|.sk<|.s<|.b 1<|.s<|.g<|.r 1<|gx s1 k fun ag aa=>?_
 have ar:=Ab aa
 refine RG.Ix 1 aa Z<|Z.el 1 aa fun aA aB Z=>RG.Lh 0 0 Z<|.r 2<|.d<|.s<|.g<|.r 2<|gx s2 k fun ah ab=>?_
 have ax:=Ab ab
 refine RG.Ix 2 ab Z<|Z.el 2 ab fun aC aD Z=>RG.Lh 0 0 Z<|.r 1<|.d<|.s<|.g<|.r 3<|RG.C0 (ER ag ah (Z.a 3) (Z.a 1)) Z fun w Z=>?_
 cases ay:(ag==ah)
 ·exact .r 1<|.d<|.ct<|.s<|.g<|.r 1<|.d<|T.rt func204 results204 (.bool false) ⟨(AG (by grind [Aa])),Z.xt⟩
 exact .r 1<|.d<|.cf<|.sk<|.ib 1<|.g<|.it ((k:Int)+1)<|.r 1<|.d<|ac (k+1) _ _ AA (Z.to 0 [] 4) ⟨AB,(by grind)⟩ (by (simp only []; omega))
theorem JU (s1:List (List Tag)) (s2:List (List Tag)) (h1:RepS w F a1 n1 c1 s1) (h2:RepS w F a2 n2 c2 s2)  : Calls Tryz.prog 160 [.slice a1 n1 c1,.slice a2 n2 c2,.func (.func 161) #[] #[]].toArray w (Af fun rv w'=>rv=.bool ((s1==s2))∧Ext w w'):=by
 cases h1.len
 cases h2.len
 refine goT func160 ?_
 have Z:=((St.i0 F w).p h1).p h2
 have ak:=h1.max
 refine .s<|.g<|.r 1<|.d<|.s<|.s<|.g<|.r 4<|.ne (s1.length:Int) (s2.length:Int) (fun ae=>.d<|.ct<|.s<|.g<|.r 1<|.d<|T.rt func160 results160 (.bool false) ⟨(AG (by grind [Aa])),Z.xt⟩) fun ae=>.d<|.cf<|.sk<|.s<|.s<|.g<|.r 3<|.d<|.b 0<|T.Lp (0:Nat) (fun k=>([(1,.slice a2 s2.length c2),(2,.func (.func 161) #[] #[]),(15,.slice a1 s1.length c1),(16,vI (s1.length:Int)),(17,vI (k:Int))],[],[],s1.length - k,(k≤s1.length)∧(s1.drop k=s2.drop k↔s1=s2))) [] Z ⟨AD,AD⟩ ?_
 rintro k az w Z ⟨ao,aq⟩ ac
 refine .s<|.g<|.bp ((k:Int)< (s1.length:Int)) (fun af=>?_) (fun af=>.d<|.s<|.cf<|.x 0 rfl<|.s<|.g<|.r 1<|.d<|T.rt func160 results160 (.bool true) ⟨(AG (by grind [Aa])),Z.xt⟩)
 refine .d<|.s<|.ct<|.sk<|.s<|.b 1<|.s<|.g<|.r 1<|gx s1 k fun ag aa=>?_
 have ar:=Ab aa
 refine RG.Ix 1 aa Z<|Z.el 1 aa fun aA aB Z=>RG.Lh 0 0 Z<|.r 2<|.d<|.s<|.g<|.r 2<|gx s2 k fun ah ab=>?_
 have ax:=Ab ab
 refine RG.Ix 2 ab Z<|Z.el 2 ab fun aC aD Z=>RG.Lh 0 0 Z<|.r 1<|.d<|.s<|.g<|.r 3<|RG.C0 (Ca ag ah (Z.a 3) (Z.a 1)) Z fun w Z=>?_
 cases ay:(ag==ah)
 ·exact .r 1<|.d<|.ct<|.s<|.g<|.r 1<|.d<|T.rt func160 results160 (.bool false) ⟨(AG (by grind [Aa])),Z.xt⟩
 exact .r 1<|.d<|.cf<|.sk<|.ib 1<|.g<|.it ((k:Int)+1)<|.r 1<|.d<|ac (k+1) _ _ AA (Z.to 0 [] 4) ⟨AB,(by grind)⟩ (by (simp only []; omega))
theorem Kw (a:Prt) (b:Prt) (h1:RepS w F a1 n1 c1 a.ids) (h2:RepS w F a2 n2 c2 a.blocks) (h3:RepS w F a3 n3 c3 b.ids) (h4:RepS w F a4 n4 c4 b.blocks)  : Calls Tryz.prog 159 [.agg #[.slice a1 n1 c1,.slice a2 n2 c2],.agg #[.slice a3 n3 c3,.slice a4 n4 c4]].toArray w (Af fun rv w'=>rv=.bool ((a==b))∧Ext w w'):=by
 cases h1.len
 cases h2.len
 cases h3.len
 cases h4.len
 refine goT func159 ?_
 have Z:=((((St.i0 F w).p h1).p h2).p h3).p h4
 have aa:=h1.max
 have ab:=h2.max
 have ac:=h3.max
 have ae:=h4.max
 refine .s<|.g<|RG.Np Z fun ag w Z=>RG.Np Z fun ah w Z=>.r 1<|.d<|.s<|.g<|.r 1<|RG.Lb 1 Z<|.r 1<|RG.Lb 0 Z<|RG.C0 (ED a.ids b.ids (Z.a 3) (Z.a 1)) Z fun w Z=>?_
 cases af:(a.ids==b.ids)
 ·exact .r 8<|.d<|T.rt func159 results159 (.bool false) ⟨(AG (by cases a; cases b; grind)),Z.xt⟩
 exact .r 2<|RG.Lb 1 Z<|.r 1<|RG.Lb 0 Z<|RG.C0 (Iv a.blocks b.blocks (Z.a 2) (Z.a 0)) Z fun w Z=>.r 2<|.d<|T.rt func159 results159 (.bool (a.blocks==b.blocks)) ⟨(AG (by cases a; cases b; grind)),Z.xt⟩
theorem JV (s1:List Prt) (s2:List Prt) (h1:RepS w F a1 n1 c1 s1) (h2:RepS w F a2 n2 c2 s2)  : Calls Tryz.prog 157 [.slice a1 n1 c1,.slice a2 n2 c2,.func (.func 159) #[] #[]].toArray w (Af fun rv w'=>rv=.bool ((s1==s2))∧Ext w w'):=by
 cases h1.len
 cases h2.len
 refine goT func157 ?_
 have Z:=((St.i0 F w).p h1).p h2
 have ak:=h1.max
 refine .s<|.g<|.r 1<|.d<|.s<|.s<|.g<|.r 4<|.ne (s1.length:Int) (s2.length:Int) (fun ae=>.d<|.ct<|.s<|.g<|.r 1<|.d<|T.rt func157 results157 (.bool false) ⟨(AG (by grind [Aa])),Z.xt⟩) fun ae=>.d<|.cf<|.sk<|.s<|.s<|.g<|.r 3<|.d<|.b 0<|T.Lp (0:Nat) (fun k=>([(1,.slice a2 s2.length c2),(2,.func (.func 159) #[] #[]),(15,.slice a1 s1.length c1),(16,vI (s1.length:Int)),(17,vI (k:Int))],[],[],s1.length - k,(k≤s1.length)∧(s1.drop k=s2.drop k↔s1=s2))) [] Z ⟨AD,AD⟩ ?_
 rintro k az w Z ⟨ao,aq⟩ ac
 refine .s<|.g<|.bp ((k:Int)< (s1.length:Int)) (fun af=>?_) (fun af=>.d<|.s<|.cf<|.x 0 rfl<|.s<|.g<|.r 1<|.d<|T.rt func157 results157 (.bool true) ⟨(AG (by grind [Aa])),Z.xt⟩)
 refine .d<|.s<|.ct<|.sk<|.s<|.b 1<|.s<|.g<|.r 1<|gx s1 k fun ag aa=>?_
 have ar:=Ab aa
 refine RG.Ix 1 aa Z<|Z.el 1 aa fun aA aB aC aD Z=>RG.Lg 0 0 Z<|RG.Np Z fun aE w Z=>.r 1<|RG.Ss 0 Z fun w Z=>.d<|.s<|.g<|.r 2<|gx s2 k fun ah ab=>?_
 have ax:=Ab ab
 refine RG.Ix 3 ab Z<|Z.el 3 ab fun aF aG aH aI Z=>RG.Lg 0 0 Z<|RG.Np Z fun aJ w Z=>RG.Ss 0 Z fun w Z=>.d<|.s<|.g<|.r 1<|RG.Ln 1 Z<|RG.Ln 0 Z<|RG.C0 (Kw ag ah (Z.a 4) (Z.a 5) (Z.a 1) (Z.a 2)) Z fun w Z=>?_
 cases ay:(ag==ah)
 ·exact .r 1<|.d<|.ct<|.s<|.g<|.r 1<|.d<|T.rt func157 results157 (.bool false) ⟨(AG (by grind [Aa])),Z.xt⟩
 exact .r 1<|.d<|.cf<|.sk<|.ib 1<|.g<|.it ((k:Int)+1)<|.r 1<|.d<|ac (k+1) _ _ AA (Z.to 2 [] 6) ⟨AB,(by grind)⟩ (by (simp only []; omega))
theorem GL (d:Dsk) (h1:RepS w F a1 n1 c1 d.files) (h2:RepS w F a2 n2 c2 d.list) (h3:RepS w F a3 n3 c3 d.names)  : Calls Tryz.prog 126 [.agg #[.slice a1 n1 c1,.slice a2 n2 c2,.slice a3 n3 c3,.int .i64 d.next]].toArray w (Af fun rv w'=>rv=.bool (E0 d)∧Ext w w'):=by
 cases h1.len
 cases h2.len
 cases h3.len
 refine goT func126 ?_
 have Z:=(((St.i0 F w).p h1).p h2).p h3
 exact .s<|.g<|RG.Np Z fun af w Z=>.r 1<|.d<|.s<|.g<|.r 1<|RG.Lb 0 Z<|.eq d.next 999 (fun aa=>.r 7<|.d<|T.rt func126 results126 (.bool true) ⟨(AG (by exact Uf ‹_›)),Z.xt⟩) fun aa=>.r 2<|RG.Lb 0 Z<|.r 4<|.d<|T.rt func126 results126 (.bool ((d.files.length:Int)==20)) ⟨(AG (by exact Wn ‹_›)),Z.xt⟩
end Go.Proofs.YtcginoabkicdiaaGreat
namespace Go.Proofs.YtcginoabkicdiaaGreat
def ixB (x:Idx):Bool:=nmB x.names&&(x.AX==Be x.names)
theorem Oj {x:Idx}(h:nmB x.names=false):false=ixB x:=by unfold ixB; rw [h]; rfl
theorem XV {x:Idx}(h:nmB x.names=true):(x.AX==Be x.names)=ixB x:=by unfold ixB; rw [h]; rfl
def okP (x:Idx) (k:Nat):Prop:=∀ j p,j< k→x.AX[j]? = some p→p.ids=ids x.names p.tag∧0< p.ids.length∧(0< j→∃ q,x.AX[j - 1]? = some q∧CM q.tag p.tag=true)
theorem Zp (x:Idx):okP x 0:=fun j _ h=>absurd h AB
theorem XW {x:Idx}{k:Nat}{p:Pst}(h:okP x k) (hp:x.AX[k]? = some p) (h1:(p.ids==ids x.names p.tag)=true) (h2:¬ (p.ids.length:Int)=0) (h3:k=0∨∃ q,x.AX[k - 1]? = some q∧CM q.tag p.tag=true):okP x (k+1):=fun j q hj hq=>by
 by_cases e:j=k
 ·subst e
  rw [hp] at hq
  cases hq
  exact ⟨eq_of_beq h1,by omega,fun h0=>h3.resolve_left AB⟩
 ·exact h j q AB hq
theorem Yi {x:Idx}{k:Nat}{p:Pst}(hp:x.AX[k]? = some p) (h:(p.ids.length:Int)=0∨(p.ids==ids x.names p.tag)=false∨(0< k∧∃ q,x.AX[k - 1]? = some q∧CM q.tag p.tag=false)):false=ixB x:=by
 cases hb:ixB x with
 | false=>rfl
 | true =>
   unfold ixB at hb
   rw [AW] at hb
   have he:x.AX=Be x.names:=eq_of_beq hb.2
   rw [he] at hp h
   obtain ⟨g1,g2,_⟩:=Hx (AV hp)
   rcases h with h | h | ⟨h,q,hq,hlt⟩
   ·omega
   ·rw [beq_eq_false_iff_ne] at h; exact absurd g1 h
   ·rw [Qe hp hq h] at hlt; cases hlt
theorem Wo:∀ (xs ys:List Pst),xs.Nodup→(∀ x∈xs,x∈ys)→Ez xs≤Ez ys:=by
 intro xs
 induction xs with
 | nil=>intro ys _ _; simp [Ez]
 | cons x xs ih =>
   intro ys hn hs
   rw [List.nodup_cons] at hn
   have hx:=hs x AD
   have h1:=ih (ys.erase x) hn.2 (fun z hz=>(List.mem_erase_of_ne (fun e:z=x=>hn.1 (by rw [← e]; exact hz))).2 (hs z (by simp [hz])))
   have h2:Ez ys=x.ids.length+Ez (ys.erase x):=by
    have:=(List.perm_cons_erase hx).map (fun p:Pst=>p.ids.length)
    unfold Ez
    rw [this.sum_nat]
    simp
   have h3:Ez (x::xs)=x.ids.length+Ez xs:=by simp [Ez]
   omega
theorem Yj {x:Idx}{k:Nat}(h:okP x k) (hk:x.AX.length≤k):x.AX.Pairwise (fun a b=>CM a.tag b.tag=true):=by
 rw [List.pairwise_iff_getElem]
 intro i j hi hj hij
 have key:∀ d,i+1+d< x.AX.length→∀ p,x.AX[i+1+d]? = some p→CM x.AX[i].tag p.tag=true:=by
  intro d
  induction d with
  | zero =>
    intro hd p hp
    obtain ⟨q,hq,hlt⟩:=(h (i+1+0) p AB hp).2.2 AB
    rw [show i+1+0 - 1=i by omega,AU hi] at hq
    cases hq
    exact hlt
  | succ d ih =>
    intro hd p hp
    obtain ⟨q,hq,hlt⟩:=(h (i+1+(d+1)) p AB hp).2.2 AB
    rw [show i+1+(d+1) - 1=i+1+d by omega] at hq
    exact D4 (ih AB q hq) hlt
 have:=key (j - i - 1) AB x.AX[j] (by rw [show i+1+(j - i - 1)=j by omega]; exact AU hj)
 exact this
theorem Zq {x:Idx}{k:Nat}{n:Int}(h:okP x k) (hk:x.AX.length≤k) (hN:NmI x.names) (hn:n=(Ct x.names:Int) - (((x.AX.take k).map (fun p=>p.ids.length)).sum:Nat)):(n==0)=ixB x:=by
 rw [List.take_of_length_le hk] at hn
 have hn:n=(Ct x.names:Int) - Ez x.AX:=hn
 rw [← XV (Cu.2 hN)]
 have hS:=Ta hN.ok
 have hpw:=Yj h hk
 have hnd:x.AX.Nodup:=hpw.imp (fun {a b} h e=>by subst e; rw [H7] at h; cases h)
 have hsub:∀ p∈x.AX,p∈Be x.names:=fun p hp=>by
  obtain ⟨j,hj⟩:=List.mem_iff_getElem?.1 hp
  obtain ⟨g1,g2,_⟩:=h j p (by have:=(List.getElem?_eq_some_iff.1 hj).1; omega) hj
  obtain ⟨n,hn1,ht⟩:=Tx (names:=x.names) (t:=p.tag) (by rw [← g1]; exact List.length_pos_iff.1 g2)
  have:=PL (names:=x.names) ((E7 (hN.ok n hn1)).2 _ ht) (by rw [← g1]; exact g2)
  rw [← g1] at this
  exact this
 by_cases he:x.AX=Be x.names
 ·rw [beq_iff_eq.2 he]
  have:n=0:=by rw [hn,he,hS]; omega
  rw [this]; rfl
 ·rw [beq_eq_false_iff_ne.2 he,beq_eq_false_iff_ne]
  intro h0
  refine he (L9 (R:=fun (a b:Pst)=>CM a.tag b.tag=true) (fun a ha=>by rw [H7] at ha; cases ha) (fun a b c=>D4) _ _ hpw (Gc _) (fun p=>⟨hsub p,fun hp=>?_⟩))
  refine Classical.byContradiction fun hno=>?_
  have h1:=Wo (p::x.AX) (Be x.names) (List.nodup_cons.2 ⟨hno,hnd⟩) (fun q hq=>(List.mem_cons.1 hq).elim (fun e=>e▸hp) (hsub q))
  have h2:=(Hx hp).2.1
  have h3:Ez (p::x.AX)=p.ids.length+Ez x.AX:=by simp [Ez]
  omega
theorem R1 {names:List (List Tag)}(h:NmI names):NsD names:=fun n hn=>by
 have:=FE (h.ok n hn)
 exact ⟨by omega,fun t ht=>this.2.2 t ht⟩
theorem Kd {x:Idx}(h:ixB x=true):x=idxOf x.names∧NmI x.names:=by
 unfold ixB at h
 rw [AW] at h
 refine ⟨?_,Cu.1 h.1⟩
 have:x.AX=Be x.names:=eq_of_beq h.2
 cases x
 simp only at this
 subst this
 rfl
theorem Ug:∀ (is:List Int) (bs:List (List Row)) (o:Option Int) (q:Int),(∀ z,o=some z→q≤z)→(o=none→q=0)→0≤q→q≤6→BU o is bs=true→is.length≤6 - q∧∀ b∈bs.take is.length,Ax b=true:=by
 intro is
 induction is with
 | nil=>intro bs o q _ _ _ h6 _; simp; omega
 | cons i is ih =>
   intro bs o q h1 h2 h3 h6 hg
   cases bs with
   | nil=>cases hg
   | cons b bs =>
     simp only [BU,AW] at hg
     obtain ⟨⟨⟨⟨g1,g2⟩,g3⟩,g4⟩,g5⟩:=hg
     have r1:=Bt g1
     have hq:q< i:=by
      cases o with
      | none=>have:=h2 rfl; omega
      | some z=>have:=h1 z rfl; simp at g2; omega
     obtain ⟨e1,e2⟩:=ih bs (some i) i (fun z hz=>by cases hz; omega) (fun hz=>by cases hz) AB AB g5
     refine ⟨by simp only [List.length_cons]; omega,fun x hx=>?_⟩
     simp only [List.length_cons,List.take_succ_cons,List.mem_cons] at hx
     rcases hx with rfl | hx
     ·exact g4
     ·exact e2 x hx
theorem PrtI.okB {p:Prt}(h:Ai p=true):PrtI p:=by
 unfold Ai at h
 simp only [AW,decide_eq_true_eq] at h
 obtain ⟨h1,h2⟩:=Ug p.ids p.blocks none 0 (fun z hz=>by cases hz) (fun _=>rfl) AB AB h.2
 refine ⟨h.1,by omega,fun b hb=>?_⟩
 rw [h.1,List.take_of_length_le (Nat.le_refl _)] at h2
 exact HZ (h2 b hb)
theorem ptW {s:Sto}{n:Int}(h3:s.parts.all (fun p=>BT p n)=true):∀ p∈s.parts,PrtI p∧Ai p=true:=fun p hp=>by
 have:=Ef (List.all_eq_true.1 h3 p hp)
 exact ⟨PrtI.okB this,this⟩
end Go.Proofs.YtcginoabkicdiaaGreat
namespace Go.Proofs.YtcginoabkicdiaaGreat
theorem Hc {n:List Tag}(h:As n=true):n.length≤1000000∧∀ t∈n,t.key.length≤1000000∧t.val.length≤1000000:=by
 have:=FE h
 exact ⟨by omega,fun t ht=>by have:=this.2.2 t ht; omega⟩
theorem Uh (names:List (List Tag)):ixB (idxOf names)=nmB names:=by
 unfold ixB idxOf
 simp
theorem Zr {d:Dsk}(h1:inR d.next 1 999=true) (h2:¬ (d.files.length:Int) > 20) (h3:¬ (d.list.length:Int) > 6) (h5:Cm d.next none d.files=true) (h6:DO d=true):(ixB (Aj d).idx&&Ae (Aj d))=Ak d:=by
 rw [Zl h1 h2 h3 h5 h6]
 show (ixB (idxOf d.names)&&_)=_
 rw [Uh]
theorem pQ {d:Dsk}{y:Sto}(hy:FR d y) (h1:inR d.next 1 999=true) (h2:¬ (d.files.length:Int) > 20) (h3:¬ (d.list.length:Int) > 6) (h5:Cm d.next none d.files=true) (h6:DO d=true):(ixB y.idx&&Ae y)=Ak d:=by
 rw [← Zr h1 h2 h3 h5 h6]
 cases hb:nmB d.names with
 | false =>
   have e1:ixB y.idx=false:=by unfold ixB; rw [hy.1,hb]; rfl
   have e2:ixB (Aj d).idx=false:=by show ixB (idxOf d.names)=false; rw [Uh,hb]
   rw [e1,e2]
   rfl
 | true =>
   have hN:=Cu.1 hb
   rw [hy.2.2.2 hN (R1 hN)]
theorem Ui {nx:Int}{fs:List Fil}(h:Cm nx none fs=true):∀ f∈fs,PrtI f.part:=fun f hf=>PrtI.okB (JS _ _ _ h f hf).2.2
theorem P4 {d:Dsk}(h:Ak d=true):DD d:=by
 have hN:=(Cn h).1
 have hf:=CN h
 have hs:=h
 unfold Ak at hs
 simp only [AW,decide_eq_true_eq] at hs
 obtain ⟨⟨⟨⟨⟨g1,g2⟩,g3⟩,g4⟩,_⟩,_⟩:=hs
 have:=Bt g1
 exact ⟨NmG.of hN (R1 hN),by omega,by omega,Ui g4,by omega⟩
theorem He {s:Sto}(h:(ixB s.idx&&Ae s)=true):SD s:=by
 rw [AW] at h
 obtain ⟨h1,h2⟩:=Kd h.1
 have hk:=h.2
 unfold Ae at hk
 simp only [AW,decide_eq_true_eq] at hk
 obtain ⟨⟨⟨⟨g1,g2⟩,g3⟩,g4⟩,_⟩:=hk
 refine ⟨h1,h2,R1 h2,g1,fun p hp=>(ptW g3 p hp).1,by omega,fun m hm=>?_⟩
 have hm2:=List.all_eq_true.1 g4 m hm
 unfold DM at hm2
 rw [AW] at hm2
 have q1:=Bt hm2.1
 have q2:=h2.len
 exact ⟨by omega,by omega,PK hm2.2⟩
theorem Uj {s:Sto}(h:(ixB s.idx&&Ae s)=true):(nmB s.idx.names&&Ae s)=true:=by
 rw [AW] at h
 rw [Cu.2 (Kd h.1).2,h.2]
 rfl
def ftW (d:Dsk) (s:Sto):Bool:=ixB s.idx&&CH d s
theorem Zs {d:Dsk}{s:Sto}(h:Ak d=false):false=ftW d s:=by unfold ftW; rw [← YS (s:=s) h,Bool.and_false]
theorem Zt {d:Dsk}{s:Sto}(h:(ixB s.idx&&Ae s)=false):false=ftW d s:=by
 unfold ftW CH
 cases h1:ixB s.idx with
 | false=>rfl
 | true=>rw [h1,Bool.true_and] at h; rw [h]; simp
theorem P5 {d:Dsk}{s:Sto}(h:(ixB s.idx&&Ae s)=true){b:Bool}(hb:b=CH d s):b=ftW d s:=by
 rw [AW] at h
 unfold ftW
 rw [h.1,hb,Bool.true_and]
theorem pR {d:Dsk}{s:Sto}(h:ftW d s=true):CH d s=true∧ixB s.idx=true:=by
 unfold ftW at h
 rw [AW] at h
 exact ⟨h.2,h.1⟩
def M6 (names:List (List Tag)) (k:Nat):Nat:=((names.take k).map List.length).sum
theorem Yk {names:List (List Tag)}{k:Nat}{x:List Tag}(h:names[k]? = some x):M6 names (k+1)=M6 names k+x.length:=LP h
theorem R2 (names:List (List Tag)) (k:Nat):M6 names k≤Ct names:=by
 unfold M6 Ct
 conv=>rhs; rw [← List.take_append_drop k names]
 rw [List.map_append,List.sum_append]
 omega
theorem Uk {names:List (List Tag)}(n:List Tag) (h:n∈names):n.length≤Ct names:=Jz (f:=List.length) h
theorem Yl {w:Wld}(h:mWd w≤1048576):Ct w.disk.names≤1100000:=by
 have:=V5 (ns:=w.disk.names)
 unfold mWd mDk at h
 omega
end Go.Proofs.YtcginoabkicdiaaGreat
namespace Go.Proofs.YtcginoabkicdiaaGreat
set_option maxRecDepth 100000
set_option maxHeartbeats 4000000
variable {w:World} {F:Nat→Prop} {a1:Option Addr} {n1 c1:Nat}
theorem Gs (names:List (List Tag)) (h1:RepS w F a1 n1 c1 names) (p0:names.length≤1100000) (p1:Ct names≤1100000):Calls Tryz.prog 102 [.slice a1 n1 c1].toArray w (Af fun rv w'=>(∃ (y:Idx),VS (ge w.heap.size) w' (y:Idx) rv∧(y.names=names∧(NmI names→NsD names→y=idxOf names)))∧Ext w w'):=by
 refine goT func102 ?_
 obtain ⟨rfl,dQ,h1⟩:=h1.tp
 refine .s<|.g<|.np 27 [AH,AH] fun ae cT bF bG aH cU=>?_
 have cV:=C9 bF (Nat.le_refl _)
 replace h1:=(sn [] bG bF).g1 h1
 have aq:=bG
 refine .d<|.s<|.g<|.r 1<|.cl (BH names h1.ta AB (fun n hn=>by have:=Uk n hn; omega) (w:=cT) (F:=all)) ?_
 rintro en ag ⟨⟨bE,bX,bY,rfl,aI,bw⟩,b9⟩
 have cd:=al1 aH.lt
 have cW:Gb w.heap.size cT.heap.size:=aq.size
 have dR:=EX bw aH.lt
 have cX:=O4 bw aq.size
 replace ⟨h1,aH,aq⟩:=(sz [ae] b9 bw).g3 h1 aH aq
 replace aI:=Own.take (s0:=w.heap.size) (M:=[ae]) aI cd cW
 have dS:=aI.len
 have aA:=aI.sl cX
 replace h1:=(sd ag [bE,ae] bE).g1 h1
 have co:w.heap.size≤ag.heap.size:=aq.size
 replace aA:RepS ag (nin (GN w.heap.size ag.heap.size ae) [ae]) _ _ _ _:=aA.ZL.Bj (fun b _ h=>⟨h,by simp; exact h.2.2⟩)
 have h1c:=h1.XM; have hEc:=aq; have hb2c:=aH
 refine .ns 0 204 [] fun aM dL bH bI cY cZ=>?_
 have c7:Cov nil ag aM:=LH bH (Nat.le_refl _)
 replace aA:=(sn [ae] bI bH).g1 aA
 have ar:=bI
 have ax:Own (α:=Pst) dL aM 204 (nin (ge w.heap.size) [aM,ae]) 0 0 []:=Own.Bv cY
 refine .r 1<|.np 27 [AH,AH] fun af eB bz ce c8 da=>?_
 have db:=Az bz ax.lt
 have de:=ar.cn bz
 replace ⟨aA,ax,ar⟩:=(sn [aM,ae] ce bz).g3 aA ax ar
 refine .sc [vS bE bX bY,vS aM 0 0] c8 fun eC cg df dh=>?_
 replace ⟨aA,ax,ar⟩:=(so [af,aM,ae] cg).g3 aA ax ar
 refine .d<|.s<|.s<|.g<|.r 3<|.d<|.b 0 ?_
 have hix:=IX.ZM (tX:=27) (tP:=204) (tI:=3) (s0:=w.heap.size) (s1:=ag.heap.size) co (GN.lt (b2:=ae)) aA.w1 df ax db (Cov.ge de) (Cov.ge c7)
 have hE:=ar
 refine T.loop (X:=Nat × Nat × Nat × List RP × List Pst × List Nat) (aM,0,0,[],[],[]) (fun (r,c,k,ys,xs,rs)=>[(2,.pointer (some ⟨ae,0,none⟩)),(3,.pointer (some ⟨af,0,none⟩)),(13,.slice a1 names.length c1),(14,vI (names.length:Int)),(15,vI (k:Int))]) (fun (r,c,k,ys,xs,rs) w_=>Ext ag w_∧IX 27 204 3 w.heap.size ag.heap.size (GN w.heap.size ag.heap.size ae) w_ af r c (some ⟨bE,0,none⟩) bX bY names ys xs rs∧k≤names.length∧xs.length≤M6 names k∧(∀ x∈xs,x.ids.length≤M6 names k)∧HR k xs (names.drop k)=HR 0 [] names) (fun (r,c,k,ys,xs,rs)=>names.length - k) AA ⟨AA,AA,AA,AA,AA,trivial⟩ ⟨hE,hix,by omega,by simp,by simp,rfl⟩ ?_
 rintro ⟨r,c,k,ys,xs,rs⟩ e1_ eD ⟨hE,hix,hk,hxl,hil,hbl⟩ bZ
 have hnm:=h1c.ext hE
 refine .s<|.g<|.bp ((k:Int)< (names.length:Int)) (fun dj=>?_) (fun dj=>?_)
 ·refine .d<|.s<|.ct<|.sk<|.s<|.b 1<|.s<|.g<|.r 1 ?_
  have dm:k< names.length:=AB
  refine .ix k 1 hnm dm ?_
  obtain ⟨am,ay⟩:∃ y,names[k]? = some y:=⟨_,AU AB⟩
  obtain ⟨_,⟨dM,eE,dN,rfl,cp⟩,dq⟩:=hnm.elem k am ay
  have dt:=cp.len
  subst dt
  have dV:=cp.max
  refine .lh 0 dq<|.r 2<|.d<|.s<|.g<|.r 3<|.d<|.b 2 ?_
  have hcs:=Yk ay; have eG:=R2 names (k+1)
  have hEA:=hE; have eH:=Uk am (AV ay)
  refine T.loop (X:=Nat × Nat × Nat × List RP × List Pst × List Nat) (r,c,0,ys,xs,rs) (fun (rq,cq,j,ac,ab,ai)=>[(2,.pointer (some ⟨ae,0,none⟩)),(3,.pointer (some ⟨af,0,none⟩)),(4,vI (k:Int)),(13,.slice a1 names.length c1),(14,vI (names.length:Int)),(15,vI (k:Int)),(20,.slice dM am.length dN),(21,vI (am.length:Int)),(22,vI (j:Int))]) (fun (rq,cq,j,ac,ab,ai) w_=>Ext ag w_∧IX 27 204 3 w.heap.size ag.heap.size (GN w.heap.size ag.heap.size ae) w_ af rq cq (some ⟨bE,0,none⟩) bX bY names ac ab ai∧j≤am.length∧ab.length≤M6 names k+j∧(∀ x∈ab,x.ids.length≤M6 names k+j)∧(am.drop j).foldl (E9 ((k:Int)+1)) ab=am.foldl (E9 ((k:Int)+1)) xs) (fun (rq,cq,j,ac,ab,ai)=>am.length - j) AA ⟨AA,AA,AA,AA,AA,AA,AA,AA,AA,trivial⟩ ⟨hE,hix,by omega,by omega,fun x hx=>by have:=hil x hx; omega,rfl⟩ ?_
  rintro ⟨rq,cq,j,ac,ab,ai⟩ e2_ eI ⟨hE,hix,hj,ci,ao,hfl⟩ bA
  have du:=cp.via hEA hE
  refine .s<|.g<|.bp ((j:Int)< (am.length:Int)) (fun dv=>?_) (fun dv=>.d<|.s<|.cf<|.x 2 rfl<|.ib 1<|.g<|.it ((k:Int)+1)<|.r 1<|.d<|bZ (rq,cq,k+1,ac,ab,ai) _ _ ⟨AA,AA,AA,AA,AA,trivial⟩ ⟨hE,hix,by omega,by omega,fun x hx=>by have:=ao x hx; omega,Rj hbl (Ab ay) (E8 hfl AB)⟩ (by (simp only []; omega)))
  refine .d<|.s<|.ct<|.sk<|.s<|.b 3<|.s<|.g ?_
  have dw:j< am.length:=AB
  refine .ix j 2 du dw ?_
  obtain ⟨aa,aJ⟩:∃ y,am[j]? = some y:=⟨_,AU AB⟩
  obtain ⟨_,rfl,dx⟩:=du.elem j aa aJ
  refine .lg 0 dx<|.np 118 [.string (bs []),.string (bs [])] fun dy eJ bJ bK dA cr=>?_
  have cu:∀ q_∈af::rq::ai,Nb dy q_:=fun q_ hq_=>Az bJ (hix.lt q_ hq_)
  have bL:ag.heap.size≤dy:=Nat.le_trans hE.size (Nat.le_of_eq (Eq.symm bJ))
  replace hix:=hix.ext bK
  replace hE:=hE.trans bK
  refine .sc [vT aa.key,vT aa.val] dA fun dB aN aB cw=>?_
  replace hix:=hix.one aN cu bL
  replace hE:=Chg.Dy hE aN ⟨.inr bL⟩
  refine .d<|.s<|.g<|.r 1<|.lb hix.box<|.r 1<|.cl (Fh ab aa (hix.rep.Bj (F':=all) (fun _ _ _=>trivial)) aB (w:=dB) (F:=all)) ?_
  rintro dX bM ⟨rfl,aC⟩
  replace aB:=aB.ext aC
  replace hix:=hix.ext aC
  replace hE:=hE.trans aC
  refine .r 1<|.d<|.s<|.s<|.g<|.r 1<|.bp (Bi aa 0 ab< 0) (fun cx=>?_) (fun cx=>?_)
  ·refine .d<|.ct<|.s<|.g<|.r 1<|.lb hix.box<|.r 2<|.d<|.g<|.r 1<|.lb hix.box<|.ln aB<|.r 1<|.ns 1 204 [vT aa.key,vT aa.val,AH] fun az dY aO aP bN cy=>?_
   have bO:∀ q_∈af::rq::ai,Nb az q_:=fun q_ hq_=>Az aO (hix.lt q_ hq_)
   have cz:ag.heap.size≤az:=Nat.le_trans hE.size (Nat.le_of_eq (Eq.symm aO))
   replace hix:=hix.ext aP
   replace hE:=hE.trans aP
   have cj:=hix.lx; have dC:=hix.lr; have hvl_:=bN.lt; have hge_r:=hix.new rq AJ; have cA:=hix.new af AI; have hEs:=hE.size
   refine RG.E3 (T:=25) (ty:=25) (y:=(⟨aa.key,aa.val,none,0,0⟩:RP)) hix.own bN AA AA rfl ⟨trivial,bO rq AJ⟩ AB fun ah ck dZ cB b6 aQ=>?_
   replace hE:=Chg.Dy hE aQ ⟨.inr hge_r⟩
   refine .r 1<|.ss 1 (vS ah (ac.length+1) ck) (hix.box.chg aQ (Nb.one hix.ne)) fun bP aR cC cD=>?_
   replace hix:=hix.push (t:=⟨aa.key,aa.val⟩) (vb:=az) hEs aQ cB b6 bO cz hvl_ aR cC
   replace hE:=Chg.Dy hE aR ⟨.inr cA⟩
   refine .d ?_
   obtain ⟨xi,hxi⟩:∃ q,(ab++[(⟨⟨aa.key,aa.val⟩,[]⟩:Pst)])[ac.length]? = some q:=⟨_,AU (by (simp; omega))⟩
   obtain ⟨yi,hyi⟩:∃ q,(ac++[(⟨aa.key,aa.val,none,0,0⟩:RP)])[ac.length]? = some q:=⟨_,AU (by (simp; done))⟩
   obtain ⟨ri,hri⟩:∃ q,(ai++[az])[ac.length]? = some q:=⟨_,AU (by (simp; omega))⟩
   have hiy:ac.length< (ac++[(⟨aa.key,aa.val,none,0,0⟩:RP)]).length:=(List.getElem?_eq_some_iff.1 hyi).1
   have hl3_:af< bP.heap.size:=hix.lt _ AI; have hlr_:ah< bP.heap.size:=hix.lt _ AJ; have hn3_:=hix.ne3 hri; have hnr_:=hix.ner hri
   refine .gd (mtb [ri] bP.heap.size) 13 fun dD aS=>?_
   replace hix:=hix.ext aS
   replace hE:=hE.trans aS
   refine .r [0]<|.lb 1 hix.box (DJ (all_cons hn3_ all_nil) hl3_)<|.r [2,3]<|.lb 4 hix.box (DJ (all_cons hn3_ all_nil) hl3_)<|.r [5] ?_
   have cE:ac.length< (ac++[(⟨aa.key,aa.val,none,0,0⟩:RP)]).length:=AB
   refine GA.idx (i:=6) (b:=ah) (o:=0) ac.length (len:=(ac++[(⟨aa.key,aa.val,none,0,0⟩:RP)]).length) (z:=(ac.length:Int)) (sz:=3) AA AB cE rfl<|.r [7] ?_
   obtain ⟨_,rfl,aT⟩:=hix.own.elem ac.length yi hyi
   replace aT:Has dD ⟨ah,0+ac.length * Rep.sz RP,none⟩ [vT yi.key,vT yi.val,.slice yi.a yi.n yi.c]:=by rw [Nat.zero_add]; exact aT
   refine .lh 8 2 aT (DJ (all_cons hnr_ all_nil) hlr_)<|.r [9]<|GA.int (i:=10) ((k:Int)+1) AA AB<|.go 11<|.ns 1 3 [vI ((k:Int)+1)] fun d0 aU=>?_
   replace hix:=hix.ext aU
   replace hE:=hE.trans aU
   intro bQ d3 aV aW aX cF
   have cG:∀ q_∈af::ah::(ai++[az]),Nb bQ q_:=fun q_ hq_=>Az aV (hix.lt q_ hq_)
   replace hix:=hix.ext aW
   replace hE:=hE.trans aW
   refine .go 12<|GE.append (T:=33) (ty:=33) (args:=[.slice yi.a yi.n yi.c,vS bQ 1 1]) AA fun d4 aD=>?_
   replace aX:=aX.ext aD
   replace hix:=hix.ext aD
   replace hE:=hE.trans aD
   have hyn:=(hix.el ac.length xi yi ri hxi hyi hri).2.2.n; have hyl:xi.ids.length≤5000000:=by have hm:=AV hxi; (rcases List.mem_append.1 hm with hm | hm; (have:=ao _ hm; omega); (simp at hm; subst hm; simp))
   have bR:=hE.size; have hge_ri:=hix.new ri (IX.mi hri)
   obtain ⟨aK,bC,d5,bS,aY,b7,aj⟩:=Ku.app (P:=Tryz.prog) (T:=33) (ty:=33) (hix.el ac.length xi yi ri hxi hyi hri).2.2 AA aX (cG ri (IX.mi hri)) AB
   refine ⟨_,_,bS,Chg.toS aj (.inl AI),?_⟩
   replace hE:=Chg.Dy hE aj ⟨.inr hge_ri⟩
   refine .d fun dE aE=>?_
   replace aj:=Chg.trans aj (Ext.chg aE)
   replace aY:=aY.ext aE
   replace hE:=hE.trans aE
   have cH:ac.length< (ac++[(⟨aa.key,aa.val,none,0,0⟩:RP)]).length:=AB
   refine RG.idx (b:=ah) (o:=0) ac.length (len:=(ac++[(⟨aa.key,aa.val,none,0,0⟩:RP)]).length) (i:=(ac.length:Int)) (sz:=3) AA AB cH rfl<|.r 1 ?_
   have bT:=PS H5 hix.own aj (Nb.one (hix.ner hri))
   obtain ⟨_,rfl,aZ⟩:=bT.elem ac.length yi hyi
   replace aZ:Has dE ⟨ah,0+ac.length * Rep.sz RP,none⟩ [vT yi.key,vT yi.val,.slice yi.a yi.n yi.c]:=by rw [Nat.zero_add]; exact aZ
   refine RG.G6 (t':=33) (i:=ac.length) (k:=2) (v:=vS aK (yi.n+1) bC) (cs:=[vT yi.key,vT yi.val,.slice yi.a yi.n yi.c]) (⟨yi.key,yi.val,some ⟨aK,0,none⟩,yi.n+1,bC⟩:RP) bT hyi aZ AA AA AA rfl fun d6 cI ba cJ=>?_
   have hge_r2:=hix.new ah AJ
   replace hix:=hix.upd (i:=ac.length) (z:=(k:Int)+1) bR hxi hyi hri aj aY b7 ba (y':=(⟨yi.key,yi.val,some ⟨aK,0,none⟩,yi.n+1,bC⟩:RP)) rfl cI
   replace hE:=Chg.Dy hE ba ⟨.inr hge_r2⟩
   refine .d<|.ib 3<|.g<|.it ((j:Int)+1)<|.r 1<|.d ?_
   have hxN:((ab++[(⟨⟨aa.key,aa.val⟩,[]⟩:Pst)]).set ac.length ⟨xi.tag,xi.ids++[(k:Int)+1]⟩)=E9 ((k:Int)+1) ab aa:=(Tl hxi (by rw [← cj])).trans (JD ‹_›).symm
   have hbd:=JF ((k:Int)+1) ab aa (M6 names k+j) ci ao; rw [← hxN] at hbd
   have hfs:=EK hfl (Ab aJ); rw [← hxN] at hfs
   exact bA (ah,ck,j+1,((ac++[(⟨aa.key,aa.val,none,0,0⟩:RP)]).set ac.length (⟨yi.key,yi.val,some ⟨aK,0,none⟩,yi.n+1,bC⟩:RP)),((ab++[(⟨⟨aa.key,aa.val⟩,[]⟩:Pst)]).set ac.length ⟨xi.tag,xi.ids++[(k:Int)+1]⟩),((ai++[az]).set ac.length aK)) _ _ ⟨AA,AA,AA,AA,AA,AA,AA,AA,AA,trivial⟩ ⟨hE,hix,by omega,by have:=hbd.1; omega,fun x hx=>by have:=hbd.2 x hx; omega,hfs⟩ (by (simp only []; omega))
  refine .d<|.cf<|.sk ?_
  have cj:=hix.lx; have dC:=hix.lr; have hib:=Ri (t:=aa) (xs:=ab) ‹_›
  obtain ⟨xi,hxi⟩:∃ q,ab[(Bi aa 0 ab).toNat]? = some q:=⟨_,AU AB⟩
  obtain ⟨yi,hyi⟩:∃ q,ac[(Bi aa 0 ab).toNat]? = some q:=⟨_,AU AB⟩
  obtain ⟨ri,hri⟩:∃ q,ai[(Bi aa 0 ab).toNat]? = some q:=⟨_,AU AB⟩
  have hiy:(Bi aa 0 ab).toNat< ac.length:=(List.getElem?_eq_some_iff.1 hyi).1
  have hl3_:af< bM.heap.size:=hix.lt _ AI; have hlr_:rq< bM.heap.size:=hix.lt _ AJ; have hn3_:=hix.ne3 hri; have hnr_:=hix.ner hri
  refine .gd (mtb [ri] bM.heap.size) 13 fun dF bg=>?_
  replace hix:=hix.ext bg
  replace hE:=hE.trans bg
  refine .r [0]<|.lb 1 hix.box (DJ (all_cons hn3_ all_nil) hl3_)<|.r [2,3]<|.lb 4 hix.box (DJ (all_cons hn3_ all_nil) hl3_)<|.r [5] ?_
  have cK:(Bi aa 0 ab).toNat< ac.length:=AB
  refine GA.idx (i:=6) (b:=rq) (o:=0) ((Bi aa 0 ab).toNat) (len:=ac.length) (z:=Bi aa 0 ab) (sz:=3) AA AB cK rfl<|.r [7] ?_
  obtain ⟨_,rfl,bh⟩:=hix.own.elem ((Bi aa 0 ab).toNat) yi hyi
  replace bh:Has dF ⟨rq,0+((Bi aa 0 ab).toNat) * Rep.sz RP,none⟩ [vT yi.key,vT yi.val,.slice yi.a yi.n yi.c]:=by rw [Nat.zero_add]; exact bh
  refine .lh 8 2 bh (DJ (all_cons hnr_ all_nil) hlr_)<|.r [9]<|GA.int (i:=10) ((k:Int)+1) AA AB<|.go 11<|.ns 1 3 [vI ((k:Int)+1)] fun d7 bi=>?_
  replace hix:=hix.ext bi
  replace hE:=hE.trans bi
  intro bU d8 bj bk bm cL
  have cM:∀ q_∈af::rq::ai,Nb bU q_:=fun q_ hq_=>Az bj (hix.lt q_ hq_)
  replace hix:=hix.ext bk
  replace hE:=hE.trans bk
  refine .go 12<|GE.append (T:=33) (ty:=33) (args:=[.slice yi.a yi.n yi.c,vS bU 1 1]) AA fun d9 aF=>?_
  replace bm:=bm.ext aF
  replace hix:=hix.ext aF
  replace hE:=hE.trans aF
  have hyn:=(hix.el (Bi aa 0 ab).toNat xi yi ri hxi hyi hri).2.2.n; have hyl:xi.ids.length≤5000000:=by have hm:=AV hxi; (have:=ao _ hm; omega)
  have bR:=hE.size; have hge_ri:=hix.new ri (IX.mi hri)
  obtain ⟨aL,bD,ec,bV,bn,b8,ak⟩:=Ku.app (P:=Tryz.prog) (T:=33) (ty:=33) (hix.el (Bi aa 0 ab).toNat xi yi ri hxi hyi hri).2.2 AA bm (cM ri (IX.mi hri)) AB
  refine ⟨_,_,bV,Chg.toS ak (.inl AI),?_⟩
  replace hE:=Chg.Dy hE ak ⟨.inr hge_ri⟩
  refine .d fun dG aG=>?_
  replace ak:=Chg.trans ak (Ext.chg aG)
  replace bn:=bn.ext aG
  replace hE:=hE.trans aG
  have cN:(Bi aa 0 ab).toNat< ac.length:=AB
  refine RG.idx (b:=rq) (o:=0) ((Bi aa 0 ab).toNat) (len:=ac.length) (i:=Bi aa 0 ab) (sz:=3) AA AB cN rfl<|.r 1 ?_
  have bW:=PS H5 hix.own ak (Nb.one (hix.ner hri))
  obtain ⟨_,rfl,bo⟩:=bW.elem ((Bi aa 0 ab).toNat) yi hyi
  replace bo:Has dG ⟨rq,0+((Bi aa 0 ab).toNat) * Rep.sz RP,none⟩ [vT yi.key,vT yi.val,.slice yi.a yi.n yi.c]:=by rw [Nat.zero_add]; exact bo
  refine RG.G6 (t':=33) (i:=((Bi aa 0 ab).toNat)) (k:=2) (v:=vS aL (yi.n+1) bD) (cs:=[vT yi.key,vT yi.val,.slice yi.a yi.n yi.c]) (⟨yi.key,yi.val,some ⟨aL,0,none⟩,yi.n+1,bD⟩:RP) bW hyi bo AA AA AA rfl fun ee cO bq cP=>?_
  have hge_r2:=hix.new rq AJ
  replace hix:=hix.upd (i:=(Bi aa 0 ab).toNat) (z:=(k:Int)+1) bR hxi hyi hri ak bn b8 bq (y':=(⟨yi.key,yi.val,some ⟨aL,0,none⟩,yi.n+1,bD⟩:RP)) rfl cO
  replace hE:=Chg.Dy hE bq ⟨.inr hge_r2⟩
  refine .d<|.ib 3<|.g<|.it ((j:Int)+1)<|.r 1<|.d ?_
  have hxN:(ab.set ((Bi aa 0 ab).toNat) ⟨xi.tag,xi.ids++[(k:Int)+1]⟩)=E9 ((k:Int)+1) ab aa:=(JE ‹_› hxi).symm
  have hbd:=JF ((k:Int)+1) ab aa (M6 names k+j) ci ao; rw [← hxN] at hbd
  have hfs:=EK hfl (Ab aJ); rw [← hxN] at hfs
  exact bA (rq,cq,j+1,(ac.set ((Bi aa 0 ab).toNat) (⟨yi.key,yi.val,some ⟨aL,0,none⟩,yi.n+1,bD⟩:RP)),(ab.set ((Bi aa 0 ab).toNat) ⟨xi.tag,xi.ids++[(k:Int)+1]⟩),(ai.set ((Bi aa 0 ab).toNat) aL)) _ _ ⟨AA,AA,AA,AA,AA,AA,AA,AA,AA,trivial⟩ ⟨hE,hix,by omega,by have:=hbd.1; omega,fun x hx=>by have:=hbd.2 x hx; omega,hfs⟩ (by (simp only []; omega))
 refine .d<|.s<|.cf<|.x 0 rfl<|.s<|.g<|.r 1 ?_
 have hEw:=hEc.trans hE; have hb2n:=hb2c.ext hE; have hb2l:=hb2c.lt; have hoP:=hix.XN hb2l; have hNn:=hix.Tk; have hb3n:=hix.box; have hn3r:=hix.ne
 have eg:Nb af ae:=EX (hix.new _ AI) hb2l; have ej:Nb r ae:=EX (hix.new _ AJ) hb2l
 have hgr:Gb w.heap.size r:=Nat.le_trans co (hix.new _ AJ)
 have hbe:=Tm hbl AB
 refine .lb hb3n<|.cl (J3 hoP (by rw [hix.lx]; have q1:=R2 names k; omega)) ?_
 rintro ek dH ⟨rfl,cQ,hperm_,hsort_,br,bu⟩
 replace ⟨hNn,hb3n,hb2n⟩:=(so [af,r,ae] bu).g3 hNn hb3n hb2n
 replace hEw:Chg nil w dH:=Chg.Dy hEw bu ⟨.inr hgr⟩
 refine .d<|.s<|.g<|.ln hb3n<|.sc [vS bE bX bY,vS r ys.length c] hb2n fun cm bv cR cS=>?_
 replace ⟨hNn,br,hb3n⟩:=(so [af,r,ae] bv).g3 hNn br hb3n
 replace hEw:Chg nil w cm:=Chg.Dy hEw bv ⟨.inr cV⟩
 refine .d ?_
 have dI:=br.sl hgr
 replace hNn:=(sd cm [af,r,ae] r).g1 hNn
 exact .rb func102 results102 cR ⟨⟨((⟨names,cQ⟩:Idx):Idx),⟨_,rfl,⟨_,_,_,_,_,_,rfl,hNn.w1,dI.w1⟩⟩,(by exact ⟨rfl,fun a b=>PY a b hperm_ hsort_ hbe⟩)⟩,hEw⟩
theorem R3:∀ {ns:List (List Tag)},(∀ n∈ns,n.length≤5)→Ct ns≤5 * ns.length
 | [],_=>Nat.zero_le _
 | n :: ns, h => by
   have h1:=R3 (ns:=ns) fun x hx=>h x (.tail _ hx)
   have h2:=h n AI
   show n.length+Ct ns≤_
   rw [List.length_cons]; omega
theorem MH (names:List (List Tag)) (h1:RepS w F a1 n1 c1 names) (p0:NmI names) (p1:NsD names):Calls Tryz.prog 102 [.slice a1 n1 c1].toArray w (Af fun rv w'=>VS (ge w.heap.size) w' (idxOf names:Idx) rv∧Ext w w'):=by
 have q1:=R3 (fun n hn=>(p1 n hn).1)
 have q2:=p0.len
 refine (Gs names h1 AB AB).mono ?_
 rintro e w' ⟨v,rfl,⟨y,hy,_,e2⟩,hx⟩
 obtain rfl:=e2 p0 p1
 exact ⟨v,rfl,hy,hx⟩
end Go.Proofs.YtcginoabkicdiaaGreat
namespace Go.Proofs.YtcginoabkicdiaaGreat
set_option maxRecDepth 100000
set_option maxHeartbeats 4000000
variable {w:World} {F:Nat→Prop} {a1 a2 a3 a4 a5 a6 a7 a8 a9 a10 a11 a12 a13 a14:Option Addr} {n1 c1 n2 c2 n3 c3 n4 c4 n5 c5 n6 c6 n7 c7 n8 c8 n9 c9 n10 c10 n11 c11 n12 c12 n13 c13 n14 c14:Nat}
theorem JW (a:Tag) (left:Int){F:Nat→Prop}  (p0:TgB a) (p1:0≤left∧left≤1048576):Calls Tryz.prog 92 [.agg #[.string (bs a.key),.string (bs a.val)],.int .i64 left].toArray w (Af fun rv w'=>rv=.int .i64 (szI (mT a) left)∧Ext w w'):=by
 refine goT func92 ?_
 have Z:=St.i0 F w
 exact .s<|.g<|RG.Np Z fun ac w Z=>.r 1<|.d<|.s<|.g<|.r 2<|RG.Lb 0 Z<|RG.eqv (v:=vI (a.key.length:Int)) AA (Ld a.key)<|RG.int (left - (a.key.length:Int)) AA (by (have q1:=p0.1; omega))<|.r 1<|.d<|.s<|.s<|.g<|.r 1<|.bp (left - (a.key.length:Int)< 0) (fun aa=>.d<|.ct<|.s<|.g<|.r 1<|.d<|T.rt func92 results92 (vI (-1)) ⟨(congrArg (Value.int .i64) (by grind [szI,mT])),Z.xt⟩) fun aa=>.d<|.cf<|.sk<|.s<|.g<|.r 2<|RG.Lb 0 Z<|RG.eqv (v:=vI (a.val.length:Int)) AA (Ld a.val)<|RG.int ((left - (a.key.length:Int)) - (a.val.length:Int)) AA (by (have q1:=p0.1; have q2:=p0.2; omega))<|.r 1<|.d<|.s<|.s<|.g<|.r 1<|.bp ((left - (a.key.length:Int)) - (a.val.length:Int)< 0) (fun ab=>.d<|.ct<|.s<|.g<|.r 1<|.d<|T.rt func92 results92 (vI (-1)) ⟨(congrArg (Value.int .i64) (by grind [szI,mT])),Z.xt⟩) fun ab=>.d<|.cf<|.sk<|.s<|.g<|.r 2<|.d<|T.rt func92 results92 (vI ((left - (a.key.length:Int)) - (a.val.length:Int))) ⟨(congrArg (Value.int .i64) (by grind [szI,mT])),Z.xt⟩
theorem IQ (a:List Tag) (left:Int) (h1:RepS w F a1 n1 c1 a) (p0:NmB a) (p1:0≤left∧left≤1048576):Calls Tryz.prog 36 [.slice a1 n1 c1,.int .i64 left].toArray w (Af fun rv w'=>rv=.int .i64 (szI (mNm a) left)∧Ext w w'):=by
 cases h1.len
 refine goT func36 ?_
 have Z:=(St.i0 F w).p h1
 have aj:=h1.max
 refine .s<|.g<|.r 1<|.d<|.s<|.g<|.r 3<|.it (left - (a.length:Int))<|.r 1<|.d<|.s<|.s<|.g<|.r 1<|.bp (left - (a.length:Int)< 0) (fun af=>.d<|.ct<|.s<|.g<|.r 1<|.d<|T.rt func36 results36 (vI (-1)) ⟨(congrArg (Value.int .i64) (by exact H9 ‹_› rfl)),Z.xt⟩) fun af=>.d<|.cf<|.sk<|.s<|.s<|.g<|.r 1<|.d<|.b 0<|T.Lp (left - (a.length:Int),(0:Nat)) (fun (aa,i)=>([(0,.slice a1 a.length c1),(1,vI aa),(5,vI (i:Int))],[],[],a.length - i,(i≤a.length)∧(0≤aa∧aa≤1048576)∧(szI (Fu mT (a.drop i)) aa=szI (mNm a) left))) [] Z ⟨AB,AB,(by exact H8 rfl AB rfl)⟩ ?_
 rintro ⟨aa,i⟩ ar w Z ⟨ak,am,ao⟩ ac
 refine .s<|.s<|.g<|.r 3<|.bp ((i:Int)< (a.length:Int)) (fun ag=>?_) (fun ag=>.d<|.cf<|.x 0 rfl<|.s<|.g<|.r 2<|.d<|T.rt func36 results36 (vI aa) ⟨(congrArg (Value.int .i64) (by exact Nk ‹_› AB AB)),Z.xt⟩)
 refine .d<|.ct<|.sk<|.s<|.b 1<|.s<|.g<|.r 2<|gx a i fun ae ab=>?_
 have aq:=Ab ab; have ai:=AV ab
 exact RG.Ix 0 ab Z<|Z.el 0 ab fun Z=>RG.Lg 0 0 Z<|.r 1<|RG.C0 (JW ae aa (p0 _ ‹_›) AB (F:=all)) Z fun w Z=>.r 1<|.d<|.s<|.g<|.r 1<|.bp (szI (mT ae) aa< 0) (fun ah=>.d<|.ct<|.s<|.g<|.r 1<|.d<|T.rt func36 results36 (vI (-1)) ⟨(congrArg (Value.int .i64) (by exact SW ‹_› ‹_› ‹_› AB)),Z.xt⟩) fun ah=>.d<|.cf<|.sk<|.ib 1<|.g<|.r 1<|.it ((i:Int)+1)<|.r 1<|.d<|ac (szI (mT ae) aa,i+1) _ _ AA (Z.to 0 [] 1) ⟨AB,(by have q1:=D5 ‹_›; omega),(by exact J0 ‹_› ‹_› ‹_›)⟩ (by (simp only []; omega))
theorem Hf (a:List (List Tag)) (left:Int) (h1:RepS w F a1 n1 c1 a) (p0:NsB a) (p1:0≤left∧left≤1048576):Calls Tryz.prog 91 [.slice a1 n1 c1,.int .i64 left].toArray w (Af fun rv w'=>rv=.int .i64 (szI (mNs a) left)∧Ext w w'):=by
 cases h1.len
 refine goT func91 ?_
 have Z:=(St.i0 F w).p h1
 have aj:=h1.max
 refine .s<|.g<|.r 1<|.d<|.s<|.g<|.r 3<|.it (left - (a.length:Int))<|.r 1<|.d<|.s<|.s<|.g<|.r 1<|.bp (left - (a.length:Int)< 0) (fun af=>.d<|.ct<|.s<|.g<|.r 1<|.d<|T.rt func91 results91 (vI (-1)) ⟨(congrArg (Value.int .i64) (by exact H9 ‹_› rfl)),Z.xt⟩) fun af=>.d<|.cf<|.sk<|.s<|.s<|.g<|.r 1<|.d<|.b 0<|T.Lp (left - (a.length:Int),(0:Nat)) (fun (aa,i)=>([(0,.slice a1 a.length c1),(1,vI aa),(5,vI (i:Int))],[],[],a.length - i,(i≤a.length)∧(0≤aa∧aa≤1048576)∧(szI (Fu mNm (a.drop i)) aa=szI (mNs a) left))) [] Z ⟨AB,AB,(by exact H8 rfl AB rfl)⟩ ?_
 rintro ⟨aa,i⟩ ar w Z ⟨ak,am,ao⟩ ac
 refine .s<|.s<|.g<|.r 3<|.bp ((i:Int)< (a.length:Int)) (fun ag=>?_) (fun ag=>.d<|.cf<|.x 0 rfl<|.s<|.g<|.r 2<|.d<|T.rt func91 results91 (vI aa) ⟨(congrArg (Value.int .i64) (by exact Nk ‹_› AB AB)),Z.xt⟩)
 refine .d<|.ct<|.sk<|.s<|.b 1<|.s<|.g<|.r 2<|gx a i fun ae ab=>?_
 have aq:=Ab ab; have ai:=AV ab
 exact RG.Ix 0 ab Z<|Z.el 0 ab fun ax ay Z=>RG.Lh 0 0 Z<|.r 1<|RG.C0 (IQ ae aa (Z.a 1) (p0 _ ‹_›) AB) Z fun w Z=>.r 1<|.d<|.s<|.g<|.r 1<|.bp (szI (mNm ae) aa< 0) (fun ah=>.d<|.ct<|.s<|.g<|.r 1<|.d<|T.rt func91 results91 (vI (-1)) ⟨(congrArg (Value.int .i64) (by exact SW ‹_› ‹_› ‹_› AB)),Z.xt⟩) fun ah=>.d<|.cf<|.sk<|.ib 1<|.g<|.r 1<|.it ((i:Int)+1)<|.r 1<|.d<|ac (szI (mNm ae) aa,i+1) _ _ AA (Z.to 0 [] 2) ⟨AB,(by have q1:=D5 ‹_›; omega),(by exact J0 ‹_› ‹_› ‹_›)⟩ (by (simp only []; omega))
theorem Fx (a:List Int) (left:Int) (h1:RepS w F a1 n1 c1 a) (p0:0≤left∧left≤1048576):Calls Tryz.prog 90 [.slice a1 n1 c1,.int .i64 left].toArray w (Af fun rv w'=>rv=.int .i64 (szI (mIs a) left)∧Ext w w'):=by
 cases h1.len
 refine goT func90 ?_
 have Z:=(St.i0 F w).p h1
 have ab:=h1.max
 exact .s<|.g<|.r 1<|.d<|.s<|.g<|.r 3<|.it (left - (a.length:Int))<|.r 1<|.d<|.s<|.s<|.g<|.r 1<|.bp (left - (a.length:Int)< 0) (fun aa=>.d<|.ct<|.s<|.g<|.r 1<|.d<|T.rt func90 results90 (vI (-1)) ⟨(congrArg (Value.int .i64) (by grind [szI,mIs])),Z.xt⟩) fun aa=>.d<|.cf<|.sk<|.s<|.g<|.r 2<|.d<|T.rt func90 results90 (vI (left - (a.length:Int))) ⟨(congrArg (Value.int .i64) (by grind [szI,mIs])),Z.xt⟩
theorem M7 (a:Pst) (left:Int) (h1:RepS w F a1 n1 c1 a.ids) (p0:(fun (p:Pst)=>TgB p.tag) a) (p1:0≤left∧left≤1048576):Calls Tryz.prog 193 [.agg #[.string (bs a.tag.key),.string (bs a.tag.val),.slice a1 n1 c1],.int .i64 left].toArray w (Af fun rv w'=>rv=.int .i64 (szI (mPo a) left)∧Ext w w'):=by
 cases h1.len
 refine goT func193 ?_
 have Z:=(St.i0 F w).p h1
 exact .s<|.g<|RG.Np Z fun af w Z=>.r 1<|.d<|.s<|.g<|.r 1<|RG.Ln 0 Z<|.r 1<|RG.C0 (JW a.tag left p0 AB (F:=all)) Z fun w Z=>.r 1<|.d<|.s<|.s<|.g<|.r 1<|.bp (szI (mT a.tag) left< 0) (fun aa=>.d<|.ct<|.s<|.g<|.r 1<|.d<|T.rt func193 results193 (vI (-1)) ⟨(congrArg (Value.int .i64) (by grind [szI,mPo])),Z.xt⟩) fun aa=>.d<|.cf<|.sk<|.s<|.g<|.r 1<|RG.Lb 0 Z<|.r 1<|RG.C0 (Fx a.ids (szI (mT a.tag) left) (Z.a 0) (by (have q1:=D5 ‹_›; omega))) Z fun w Z=>.r 1<|.d<|.s<|.s<|.g<|.r 1<|.bp (szI (mIs a.ids) (szI (mT a.tag) left)< 0) (fun ab=>.d<|.ct<|.s<|.g<|.r 1<|.d<|T.rt func193 results193 (vI (-1)) ⟨(congrArg (Value.int .i64) (by grind [szI,mPo])),Z.xt⟩) fun ab=>.d<|.cf<|.sk<|.s<|.g<|.r 2<|.d<|T.rt func193 results193 (vI (szI (mIs a.ids) (szI (mT a.tag) left))) ⟨(congrArg (Value.int .i64) (by grind [szI,mPo])),Z.xt⟩
theorem MI (a:List Pst) (left:Int) (h1:RepS w F a1 n1 c1 a) (p0:PoB a) (p1:0≤left∧left≤1048576):Calls Tryz.prog 145 [.slice a1 n1 c1,.int .i64 left].toArray w (Af fun rv w'=>rv=.int .i64 (szI (PT a) left)∧Ext w w'):=by
 cases h1.len
 refine goT func145 ?_
 have Z:=(St.i0 F w).p h1
 have aj:=h1.max
 refine .s<|.g<|.r 1<|.d<|.s<|.g<|.r 3<|.it (left - (a.length:Int))<|.r 1<|.d<|.s<|.s<|.g<|.r 1<|.bp (left - (a.length:Int)< 0) (fun af=>.d<|.ct<|.s<|.g<|.r 1<|.d<|T.rt func145 results145 (vI (-1)) ⟨(congrArg (Value.int .i64) (by exact H9 ‹_› rfl)),Z.xt⟩) fun af=>.d<|.cf<|.sk<|.s<|.s<|.g<|.r 1<|.d<|.b 0<|T.Lp (left - (a.length:Int),(0:Nat)) (fun (aa,i)=>([(0,.slice a1 a.length c1),(1,vI aa),(5,vI (i:Int))],[],[],a.length - i,(i≤a.length)∧(0≤aa∧aa≤1048576)∧(szI (Fu mPo (a.drop i)) aa=szI (PT a) left))) [] Z ⟨AB,AB,(by exact H8 rfl AB rfl)⟩ ?_
 rintro ⟨aa,i⟩ ar w Z ⟨ak,am,ao⟩ ac
 refine .s<|.s<|.g<|.r 3<|.bp ((i:Int)< (a.length:Int)) (fun ag=>?_) (fun ag=>.d<|.cf<|.x 0 rfl<|.s<|.g<|.r 2<|.d<|T.rt func145 results145 (vI aa) ⟨(congrArg (Value.int .i64) (by exact Nk ‹_› AB AB)),Z.xt⟩)
 refine .d<|.ct<|.sk<|.s<|.b 1<|.s<|.g<|.r 2<|gx a i fun ae ab=>?_
 have aq:=Ab ab; have ai:=AV ab
 exact RG.Ix 0 ab Z<|Z.el 0 ab fun ax ay Z=>RG.Lg 0 0 Z<|.r 1<|RG.C0 (M7 ae aa (Z.a 1) (p0 _ ‹_›) AB) Z fun w Z=>.r 1<|.d<|.s<|.g<|.r 1<|.bp (szI (mPo ae) aa< 0) (fun ah=>.d<|.ct<|.s<|.g<|.r 1<|.d<|T.rt func145 results145 (vI (-1)) ⟨(congrArg (Value.int .i64) (by exact SW ‹_› ‹_› ‹_› AB)),Z.xt⟩) fun ah=>.d<|.cf<|.sk<|.ib 1<|.g<|.r 1<|.it ((i:Int)+1)<|.r 1<|.d<|ac (szI (mPo ae) aa,i+1) _ _ AA (Z.to 0 [] 2) ⟨AB,(by have q1:=D5 ‹_›; omega),(by exact J0 ‹_› ‹_› ‹_›)⟩ (by (simp only []; omega))
theorem MJ (a:Idx) (left:Int) (h1:RepS w F a1 n1 c1 a.names) (h2:RepS w F a2 n2 c2 a.AX) (p0:IxB a) (p1:0≤left∧left≤1048576):Calls Tryz.prog 86 [.agg #[.slice a1 n1 c1,.slice a2 n2 c2],.int .i64 left].toArray w (Af fun rv w'=>rv=.int .i64 (szI (mIx a) left)∧Ext w w'):=by
 cases h1.len
 cases h2.len
 refine goT func86 ?_
 have Z:=((St.i0 F w).p h1).p h2
 exact .s<|.g<|RG.Np Z fun ag w Z=>.r 1<|.d<|.s<|.g<|.r 1<|RG.Lb 0 Z<|.r 1<|RG.C0 (Hf a.names left (Z.a 1) p0.1 AB) Z fun w Z=>.r 1<|.d<|.s<|.s<|.g<|.r 1<|.bp (szI (mNs a.names) left< 0) (fun aa=>.d<|.ct<|.s<|.g<|.r 1<|.d<|T.rt func86 results86 (vI (-1)) ⟨(congrArg (Value.int .i64) (by grind [szI,mIx])),Z.xt⟩) fun aa=>.d<|.cf<|.sk<|.s<|.g<|.r 1<|RG.Lb 0 Z<|.r 1<|RG.C0 (MI a.AX (szI (mNs a.names) left) (Z.a 0) p0.2 (by (have q1:=D5 ‹_›; omega))) Z fun w Z=>.r 1<|.d<|.s<|.s<|.g<|.r 1<|.bp (szI (PT a.AX) (szI (mNs a.names) left)< 0) (fun ab=>.d<|.ct<|.s<|.g<|.r 1<|.d<|T.rt func86 results86 (vI (-1)) ⟨(congrArg (Value.int .i64) (by grind [szI,mIx])),Z.xt⟩) fun ab=>.d<|.cf<|.sk<|.s<|.g<|.r 2<|.d<|T.rt func86 results86 (vI (szI (PT a.AX) (szI (mNs a.names) left))) ⟨(congrArg (Value.int .i64) (by grind [szI,mIx])),Z.xt⟩
theorem M8 (a:List Row) (left:Int) (h1:RepS w F a1 n1 c1 a) (p0:0≤left∧left≤1048576):Calls Tryz.prog 219 [.slice a1 n1 c1,.int .i64 left].toArray w (Af fun rv w'=>rv=.int .i64 (szI (mRw a) left)∧Ext w w'):=by
 cases h1.len
 refine goT func219 ?_
 have Z:=(St.i0 F w).p h1
 have ab:=h1.max
 exact .s<|.g<|.r 1<|.d<|.s<|.g<|.r 3<|.it (left - (a.length:Int))<|.r 1<|.d<|.s<|.s<|.g<|.r 1<|.bp (left - (a.length:Int)< 0) (fun aa=>.d<|.ct<|.s<|.g<|.r 1<|.d<|T.rt func219 results219 (vI (-1)) ⟨(congrArg (Value.int .i64) (by grind [szI,mRw])),Z.xt⟩) fun aa=>.d<|.cf<|.sk<|.s<|.g<|.r 2<|.d<|T.rt func219 results219 (vI (left - (a.length:Int))) ⟨(congrArg (Value.int .i64) (by grind [szI,mRw])),Z.xt⟩
theorem MK (a:List (List Row)) (left:Int) (h1:RepS w F a1 n1 c1 a) (p0:0≤left∧left≤1048576):Calls Tryz.prog 194 [.slice a1 n1 c1,.int .i64 left].toArray w (Af fun rv w'=>rv=.int .i64 (szI (PU a) left)∧Ext w w'):=by
 cases h1.len
 refine goT func194 ?_
 have Z:=(St.i0 F w).p h1
 have aj:=h1.max
 refine .s<|.g<|.r 1<|.d<|.s<|.g<|.r 3<|.it (left - (a.length:Int))<|.r 1<|.d<|.s<|.s<|.g<|.r 1<|.bp (left - (a.length:Int)< 0) (fun af=>.d<|.ct<|.s<|.g<|.r 1<|.d<|T.rt func194 results194 (vI (-1)) ⟨(congrArg (Value.int .i64) (by exact H9 ‹_› rfl)),Z.xt⟩) fun af=>.d<|.cf<|.sk<|.s<|.s<|.g<|.r 1<|.d<|.b 0<|T.Lp (left - (a.length:Int),(0:Nat)) (fun (aa,i)=>([(0,.slice a1 a.length c1),(1,vI aa),(5,vI (i:Int))],[],[],a.length - i,(i≤a.length)∧(0≤aa∧aa≤1048576)∧(szI (Fu mRw (a.drop i)) aa=szI (PU a) left))) [] Z ⟨AB,AB,(by exact H8 rfl AB rfl)⟩ ?_
 rintro ⟨aa,i⟩ ar w Z ⟨ak,am,ao⟩ ac
 refine .s<|.s<|.g<|.r 3<|.bp ((i:Int)< (a.length:Int)) (fun ag=>?_) (fun ag=>.d<|.cf<|.x 0 rfl<|.s<|.g<|.r 2<|.d<|T.rt func194 results194 (vI aa) ⟨(congrArg (Value.int .i64) (by exact Nk ‹_› AB AB)),Z.xt⟩)
 refine .d<|.ct<|.sk<|.s<|.b 1<|.s<|.g<|.r 2<|gx a i fun ae ab=>?_
 have aq:=Ab ab
 exact RG.Ix 0 ab Z<|Z.el 0 ab fun ax ay Z=>RG.Lh 0 0 Z<|.r 1<|RG.C0 (M8 ae aa (Z.a 1) AB) Z fun w Z=>.r 1<|.d<|.s<|.g<|.r 1<|.bp (szI (mRw ae) aa< 0) (fun ah=>.d<|.ct<|.s<|.g<|.r 1<|.d<|T.rt func194 results194 (vI (-1)) ⟨(congrArg (Value.int .i64) (by exact SW ‹_› ‹_› ‹_› AB)),Z.xt⟩) fun ah=>.d<|.cf<|.sk<|.ib 1<|.g<|.r 1<|.it ((i:Int)+1)<|.r 1<|.d<|ac (szI (mRw ae) aa,i+1) _ _ AA (Z.to 0 [] 2) ⟨AB,(by have q1:=D5 ‹_›; omega),(by exact J0 ‹_› ‹_› ‹_›)⟩ (by (simp only []; omega))
theorem IS (a:Prt) (left:Int) (h1:RepS w F a1 n1 c1 a.ids) (h2:RepS w F a2 n2 c2 a.blocks) (p0:0≤left∧left≤1048576):Calls Tryz.prog 146 [.agg #[.slice a1 n1 c1,.slice a2 n2 c2],.int .i64 left].toArray w (Af fun rv w'=>rv=.int .i64 (szI (mPt a) left)∧Ext w w'):=by
 cases h1.len
 cases h2.len
 refine goT func146 ?_
 have Z:=((St.i0 F w).p h1).p h2
 exact .s<|.g<|RG.Np Z fun ag w Z=>.r 1<|.d<|.s<|.g<|.r 1<|RG.Lb 0 Z<|.r 1<|RG.C0 (Fx a.ids left (Z.a 1) AB) Z fun w Z=>.r 1<|.d<|.s<|.s<|.g<|.r 1<|.bp (szI (mIs a.ids) left< 0) (fun aa=>.d<|.ct<|.s<|.g<|.r 1<|.d<|T.rt func146 results146 (vI (-1)) ⟨(congrArg (Value.int .i64) (by grind [szI,mPt])),Z.xt⟩) fun aa=>.d<|.cf<|.sk<|.s<|.g<|.r 1<|RG.Lb 0 Z<|.r 1<|RG.C0 (MK a.blocks (szI (mIs a.ids) left) (Z.a 0) (by (have q1:=D5 ‹_›; omega))) Z fun w Z=>.r 1<|.d<|.s<|.s<|.g<|.r 1<|.bp (szI (PU a.blocks) (szI (mIs a.ids) left)< 0) (fun ab=>.d<|.ct<|.s<|.g<|.r 1<|.d<|T.rt func146 results146 (vI (-1)) ⟨(congrArg (Value.int .i64) (by grind [szI,mPt])),Z.xt⟩) fun ab=>.d<|.cf<|.sk<|.s<|.g<|.r 2<|.d<|T.rt func146 results146 (vI (szI (PU a.blocks) (szI (mIs a.ids) left))) ⟨(congrArg (Value.int .i64) (by grind [szI,mPt])),Z.xt⟩
theorem MM (a:List Prt) (left:Int) (h1:RepS w F a1 n1 c1 a) (p0:0≤left∧left≤1048576):Calls Tryz.prog 87 [.slice a1 n1 c1,.int .i64 left].toArray w (Af fun rv w'=>rv=.int .i64 (szI (M5 a) left)∧Ext w w'):=by
 cases h1.len
 refine goT func87 ?_
 have Z:=(St.i0 F w).p h1
 have aj:=h1.max
 refine .s<|.g<|.r 1<|.d<|.s<|.g<|.r 3<|.it (left - (a.length:Int))<|.r 1<|.d<|.s<|.s<|.g<|.r 1<|.bp (left - (a.length:Int)< 0) (fun af=>.d<|.ct<|.s<|.g<|.r 1<|.d<|T.rt func87 results87 (vI (-1)) ⟨(congrArg (Value.int .i64) (by exact H9 ‹_› rfl)),Z.xt⟩) fun af=>.d<|.cf<|.sk<|.s<|.s<|.g<|.r 1<|.d<|.b 0<|T.Lp (left - (a.length:Int),(0:Nat)) (fun (aa,i)=>([(0,.slice a1 a.length c1),(1,vI aa),(5,vI (i:Int))],[],[],a.length - i,(i≤a.length)∧(0≤aa∧aa≤1048576)∧(szI (Fu mPt (a.drop i)) aa=szI (M5 a) left))) [] Z ⟨AB,AB,(by exact H8 rfl AB rfl)⟩ ?_
 rintro ⟨aa,i⟩ ar w Z ⟨ak,am,ao⟩ ac
 refine .s<|.s<|.g<|.r 3<|.bp ((i:Int)< (a.length:Int)) (fun ag=>?_) (fun ag=>.d<|.cf<|.x 0 rfl<|.s<|.g<|.r 2<|.d<|T.rt func87 results87 (vI aa) ⟨(congrArg (Value.int .i64) (by exact Nk ‹_› AB AB)),Z.xt⟩)
 refine .d<|.ct<|.sk<|.s<|.b 1<|.s<|.g<|.r 2<|gx a i fun ae ab=>?_
 have aq:=Ab ab
 exact RG.Ix 0 ab Z<|Z.el 0 ab fun ax ay az aA Z=>RG.Lg 0 0 Z<|.r 1<|RG.C0 (IS ae aa (Z.a 1) (Z.a 2) AB) Z fun w Z=>.r 1<|.d<|.s<|.g<|.r 1<|.bp (szI (mPt ae) aa< 0) (fun ah=>.d<|.ct<|.s<|.g<|.r 1<|.d<|T.rt func87 results87 (vI (-1)) ⟨(congrArg (Value.int .i64) (by exact SW ‹_› ‹_› ‹_› AB)),Z.xt⟩) fun ah=>.d<|.cf<|.sk<|.ib 1<|.g<|.r 1<|.it ((i:Int)+1)<|.r 1<|.d<|ac (szI (mPt ae) aa,i+1) _ _ AA (Z.to 0 [] 3) ⟨AB,(by have q1:=D5 ‹_›; omega),(by exact J0 ‹_› ‹_› ‹_›)⟩ (by (simp only []; omega))
theorem KF (a:List Smp) (left:Int) (h1:RepS w F a1 n1 c1 a) (p0:0≤left∧left≤1048576):Calls Tryz.prog 88 [.slice a1 n1 c1,.int .i64 left].toArray w (Af fun rv w'=>rv=.int .i64 (szI (mSm a) left)∧Ext w w'):=by
 cases h1.len
 refine goT func88 ?_
 have Z:=(St.i0 F w).p h1
 have ab:=h1.max
 exact .s<|.g<|.r 1<|.d<|.s<|.g<|.r 3<|.it (left - (a.length:Int))<|.r 1<|.d<|.s<|.s<|.g<|.r 1<|.bp (left - (a.length:Int)< 0) (fun aa=>.d<|.ct<|.s<|.g<|.r 1<|.d<|T.rt func88 results88 (vI (-1)) ⟨(congrArg (Value.int .i64) (by grind [szI,mSm])),Z.xt⟩) fun aa=>.d<|.cf<|.sk<|.s<|.g<|.r 2<|.d<|T.rt func88 results88 (vI (left - (a.length:Int))) ⟨(congrArg (Value.int .i64) (by grind [szI,mSm])),Z.xt⟩
theorem MN (a:Sto) (left:Int) (h1:RepS w F a1 n1 c1 a.idx.names) (h2:RepS w F a2 n2 c2 a.idx.AX) (h3:RepS w F a3 n3 c3 a.parts) (h4:RepS w F a4 n4 c4 a.mem) (p0:StB a) (p1:0≤left∧left≤1048576):Calls Tryz.prog 34 [.agg #[.slice a1 n1 c1,.slice a2 n2 c2,.slice a3 n3 c3,.slice a4 n4 c4],.int .i64 left].toArray w (Af fun rv w'=>rv=.int .i64 (szI (mSt a) left)∧Ext w w'):=by
 cases h1.len
 cases h2.len
 cases h3.len
 cases h4.len
 refine goT func34 ?_
 have Z:=((((St.i0 F w).p h1).p h2).p h3).p h4
 exact .s<|.g<|RG.Np Z fun ak w Z=>.r 1<|.d<|.s<|.g<|.r 1<|RG.Ln 0 Z<|.r 1<|RG.C0 (MJ a.idx left (Z.a 3) (Z.a 2) p0 AB) Z fun w Z=>.r 1<|.d<|.s<|.s<|.g<|.r 1<|.bp (szI (mIx a.idx) left< 0) (fun ab=>.d<|.ct<|.s<|.g<|.r 1<|.d<|T.rt func34 results34 (vI (-1)) ⟨(congrArg (Value.int .i64) (by grind [szI,mSt])),Z.xt⟩) fun ab=>.d<|.cf<|.sk<|.s<|.g<|.r 1<|RG.Lb 0 Z<|.r 1<|RG.C0 (MM a.parts (szI (mIx a.idx) left) (Z.a 1) (by (have q1:=D5 ‹_›; omega))) Z fun w Z=>.r 1<|.d<|.s<|.s<|.g<|.r 1<|.bp (szI (M5 a.parts) (szI (mIx a.idx) left)< 0) (fun ac=>.d<|.ct<|.s<|.g<|.r 1<|.d<|T.rt func34 results34 (vI (-1)) ⟨(congrArg (Value.int .i64) (by grind [szI,mSt])),Z.xt⟩) fun ac=>.d<|.cf<|.sk<|.s<|.g<|.r 1<|RG.Lb 0 Z<|.r 1<|RG.C0 (KF a.mem (szI (M5 a.parts) (szI (mIx a.idx) left)) (Z.a 0) (by (have q1:=D5 (by assumption:¬ szI _ (szI _ left)< 0); have q2:=D5 (by assumption:¬ szI _ left< 0); omega))) Z fun w Z=>.r 1<|.d<|.s<|.s<|.g<|.r 1<|.bp (szI (mSm a.mem) (szI (M5 a.parts) (szI (mIx a.idx) left))< 0) (fun ae=>.d<|.ct<|.s<|.g<|.r 1<|.d<|T.rt func34 results34 (vI (-1)) ⟨(congrArg (Value.int .i64) (by grind [szI,mSt])),Z.xt⟩) fun ae=>.d<|.cf<|.sk<|.s<|.g<|.r 2<|.d<|T.rt func34 results34 (vI (szI (mSm a.mem) (szI (M5 a.parts) (szI (mIx a.idx) left)))) ⟨(congrArg (Value.int .i64) (by grind [szI,mSt])),Z.xt⟩
theorem M9 (a:Fil) (left:Int) (h1:RepS w F a1 n1 c1 a.part.ids) (h2:RepS w F a2 n2 c2 a.part.blocks) (p0:0≤left∧left≤1048576):Calls Tryz.prog 147 [.agg #[.int .i64 a.num,.slice a1 n1 c1,.slice a2 n2 c2],.int .i64 left].toArray w (Af fun rv w'=>rv=.int .i64 (szI (mFl a) left)∧Ext w w'):=by
 cases h1.len
 cases h2.len
 refine goT func147 ?_
 have Z:=((St.i0 F w).p h1).p h2
 exact .s<|.g<|RG.Np Z fun ae w Z=>.r 1<|.d<|.s<|.g<|.r 1<|RG.Ln 0 Z<|.r 1<|RG.C0 (IS a.part left (Z.a 1) (Z.a 0) AB) Z fun w Z=>.r 1<|.d<|.s<|.s<|.g<|.r 1<|.bp (szI (mPt a.part) left< 0) (fun aa=>.d<|.ct<|.s<|.g<|.r 1<|.d<|T.rt func147 results147 (vI (-1)) ⟨(congrArg (Value.int .i64) (by grind [szI,mFl])),Z.xt⟩) fun aa=>.d<|.cf<|.sk<|.s<|.g<|.r 2<|.d<|T.rt func147 results147 (vI (szI (mPt a.part) left)) ⟨(congrArg (Value.int .i64) (by grind [szI,mFl])),Z.xt⟩
theorem MO (a:List Fil) (left:Int) (h1:RepS w F a1 n1 c1 a) (p0:0≤left∧left≤1048576):Calls Tryz.prog 89 [.slice a1 n1 c1,.int .i64 left].toArray w (Af fun rv w'=>rv=.int .i64 (szI (Kv a) left)∧Ext w w'):=by
 cases h1.len
 refine goT func89 ?_
 have Z:=(St.i0 F w).p h1
 have aj:=h1.max
 refine .s<|.g<|.r 1<|.d<|.s<|.g<|.r 3<|.it (left - (a.length:Int))<|.r 1<|.d<|.s<|.s<|.g<|.r 1<|.bp (left - (a.length:Int)< 0) (fun af=>.d<|.ct<|.s<|.g<|.r 1<|.d<|T.rt func89 results89 (vI (-1)) ⟨(congrArg (Value.int .i64) (by exact H9 ‹_› rfl)),Z.xt⟩) fun af=>.d<|.cf<|.sk<|.s<|.s<|.g<|.r 1<|.d<|.b 0<|T.Lp (left - (a.length:Int),(0:Nat)) (fun (aa,i)=>([(0,.slice a1 a.length c1),(1,vI aa),(5,vI (i:Int))],[],[],a.length - i,(i≤a.length)∧(0≤aa∧aa≤1048576)∧(szI (Fu mFl (a.drop i)) aa=szI (Kv a) left))) [] Z ⟨AB,AB,(by exact H8 rfl AB rfl)⟩ ?_
 rintro ⟨aa,i⟩ ar w Z ⟨ak,am,ao⟩ ac
 refine .s<|.s<|.g<|.r 3<|.bp ((i:Int)< (a.length:Int)) (fun ag=>?_) (fun ag=>.d<|.cf<|.x 0 rfl<|.s<|.g<|.r 2<|.d<|T.rt func89 results89 (vI aa) ⟨(congrArg (Value.int .i64) (by exact Nk ‹_› AB AB)),Z.xt⟩)
 refine .d<|.ct<|.sk<|.s<|.b 1<|.s<|.g<|.r 2<|gx a i fun ae ab=>?_
 have aq:=Ab ab
 exact RG.Ix 0 ab Z<|Z.el 0 ab fun ax ay az aA Z=>RG.Lg 0 0 Z<|.r 1<|RG.C0 (M9 ae aa (Z.a 1) (Z.a 2) AB) Z fun w Z=>.r 1<|.d<|.s<|.g<|.r 1<|.bp (szI (mFl ae) aa< 0) (fun ah=>.d<|.ct<|.s<|.g<|.r 1<|.d<|T.rt func89 results89 (vI (-1)) ⟨(congrArg (Value.int .i64) (by exact SW ‹_› ‹_› ‹_› AB)),Z.xt⟩) fun ah=>.d<|.cf<|.sk<|.ib 1<|.g<|.r 1<|.it ((i:Int)+1)<|.r 1<|.d<|ac (szI (mFl ae) aa,i+1) _ _ AA (Z.to 0 [] 3) ⟨AB,(by have q1:=D5 ‹_›; omega),(by exact J0 ‹_› ‹_› ‹_›)⟩ (by (simp only []; omega))
theorem NA (a:Dsk) (left:Int) (h1:RepS w F a1 n1 c1 a.files) (h2:RepS w F a2 n2 c2 a.list) (h3:RepS w F a3 n3 c3 a.names) (p0:DkB a) (p1:0≤left∧left≤1048576):Calls Tryz.prog 35 [.agg #[.slice a1 n1 c1,.slice a2 n2 c2,.slice a3 n3 c3,.int .i64 a.next],.int .i64 left].toArray w (Af fun rv w'=>rv=.int .i64 (szI (mDk a) left)∧Ext w w'):=by
 cases h1.len
 cases h2.len
 cases h3.len
 refine goT func35 ?_
 have Z:=(((St.i0 F w).p h1).p h2).p h3
 exact .s<|.g<|RG.Np Z fun aj w Z=>.r 1<|.d<|.s<|.g<|.r 1<|RG.Lb 0 Z<|.r 1<|RG.C0 (MO a.files left (Z.a 2) AB) Z fun w Z=>.r 1<|.d<|.s<|.s<|.g<|.r 1<|.bp (szI (Kv a.files) left< 0) (fun ab=>.d<|.ct<|.s<|.g<|.r 1<|.d<|T.rt func35 results35 (vI (-1)) ⟨(congrArg (Value.int .i64) (by grind [szI,mDk])),Z.xt⟩) fun ab=>.d<|.cf<|.sk<|.s<|.g<|.r 1<|RG.Lb 0 Z<|.r 1<|RG.C0 (Fx a.list (szI (Kv a.files) left) (Z.a 1) (by (have q1:=D5 ‹_›; omega))) Z fun w Z=>.r 1<|.d<|.s<|.s<|.g<|.r 1<|.bp (szI (mIs a.list) (szI (Kv a.files) left)< 0) (fun ac=>.d<|.ct<|.s<|.g<|.r 1<|.d<|T.rt func35 results35 (vI (-1)) ⟨(congrArg (Value.int .i64) (by grind [szI,mDk])),Z.xt⟩) fun ac=>.d<|.cf<|.sk<|.s<|.g<|.r 1<|RG.Lb 0 Z<|.r 1<|RG.C0 (Hf a.names (szI (mIs a.list) (szI (Kv a.files) left)) (Z.a 0) p0 (by (have q1:=D5 (by assumption:¬ szI _ (szI _ left)< 0); have q2:=D5 (by assumption:¬ szI _ left< 0); omega))) Z fun w Z=>.r 1<|.d<|.s<|.s<|.g<|.r 1<|.bp (szI (mNs a.names) (szI (mIs a.list) (szI (Kv a.files) left))< 0) (fun ae=>.d<|.ct<|.s<|.g<|.r 1<|.d<|T.rt func35 results35 (vI (-1)) ⟨(congrArg (Value.int .i64) (by grind [szI,mDk])),Z.xt⟩) fun ae=>.d<|.cf<|.sk<|.s<|.g<|.r 2<|.d<|T.rt func35 results35 (vI (szI (mNs a.names) (szI (mIs a.list) (szI (Kv a.files) left)))) ⟨(congrArg (Value.int .i64) (by grind [szI,mDk])),Z.xt⟩
theorem MP (a:Wld) (left:Int) (h1:RepS w F a1 n1 c1 a.store.idx.names) (h2:RepS w F a2 n2 c2 a.store.idx.AX) (h3:RepS w F a3 n3 c3 a.store.parts) (h4:RepS w F a4 n4 c4 a.store.mem) (h5:RepS w F a5 n5 c5 a.disk.files) (h6:RepS w F a6 n6 c6 a.disk.list) (h7:RepS w F a7 n7 c7 a.disk.names) (p0:WdB a) (p1:0≤left∧left≤1048576):Calls Tryz.prog 14 [.agg #[.slice a1 n1 c1,.slice a2 n2 c2,.slice a3 n3 c3,.slice a4 n4 c4,.slice a5 n5 c5,.slice a6 n6 c6,.slice a7 n7 c7,.int .i64 a.disk.next],.int .i64 left].toArray w (Af fun rv w'=>rv=.int .i64 (szI (mWd a) left)∧Ext w w'):=by
 cases h1.len
 cases h2.len
 cases h3.len
 cases h4.len
 cases h5.len
 cases h6.len
 cases h7.len
 refine goT func14 ?_
 have Z:=(((((((St.i0 F w).p h1).p h2).p h3).p h4).p h5).p h6).p h7
 exact .s<|.g<|RG.Np Z fun am w Z=>.r 1<|.d<|.s<|.g<|.r 1<|RG.Ln 0 Z<|.r 1<|RG.C0 (MN a.store left (Z.a 6) (Z.a 5) (Z.a 4) (Z.a 3) p0.1 AB) Z fun w Z=>.r 1<|.d<|.s<|.s<|.g<|.r 1<|.bp (szI (mSt a.store) left< 0) (fun aa=>.d<|.ct<|.s<|.g<|.r 1<|.d<|T.rt func14 results14 (vI (-1)) ⟨(congrArg (Value.int .i64) (by grind [szI,mWd])),Z.xt⟩) fun aa=>.d<|.cf<|.sk<|.s<|.g<|.r 1<|RG.Ln 0 Z<|.r 1<|RG.C0 (NA a.disk (szI (mSt a.store) left) (Z.a 2) (Z.a 1) (Z.a 0) p0.2 (by (have q1:=D5 ‹_›; omega))) Z fun w Z=>.r 1<|.d<|.s<|.s<|.g<|.r 1<|.bp (szI (mDk a.disk) (szI (mSt a.store) left)< 0) (fun ab=>.d<|.ct<|.s<|.g<|.r 1<|.d<|T.rt func14 results14 (vI (-1)) ⟨(congrArg (Value.int .i64) (by grind [szI,mWd])),Z.xt⟩) fun ab=>.d<|.cf<|.sk<|.s<|.g<|.r 2<|.d<|T.rt func14 results14 (vI (szI (mDk a.disk) (szI (mSt a.store) left))) ⟨(congrArg (Value.int .i64) (by grind [szI,mWd])),Z.xt⟩
theorem MQ (a:Evt) (left:Int) (h1:RepS w F a1 n1 c1 a.name) (p0:EvB a) (p1:0≤left∧left≤1048576):Calls Tryz.prog 15 [.agg #[.int .i64 a.kind,.int .i64 a.at_,.int .i64 a.cut,.slice a1 n1 c1,.int .i64 a.row.t,.int .i64 a.row.v],.int .i64 left].toArray w (Af fun rv w'=>rv=.int .i64 (szI (mEv a) left)∧Ext w w'):=by
 cases h1.len
 refine goT func15 ?_
 have Z:=(St.i0 F w).p h1
 exact .s<|.g<|RG.Np Z fun ac w Z=>.r 1<|.d<|.s<|.g<|.r 1<|RG.Lb 0 Z<|.r 1<|RG.C0 (IQ a.name left (Z.a 0) p0 AB) Z fun w Z=>.r 1<|.d<|.s<|.s<|.g<|.r 1<|.bp (szI (mNm a.name) left< 0) (fun aa=>.d<|.ct<|.s<|.g<|.r 1<|.d<|T.rt func15 results15 (vI (-1)) ⟨(congrArg (Value.int .i64) (by grind [szI,mEv])),Z.xt⟩) fun aa=>.d<|.cf<|.sk<|.s<|.g<|.r 2<|.d<|T.rt func15 results15 (vI (szI (mNm a.name) left)) ⟨(congrArg (Value.int .i64) (by grind [szI,mEv])),Z.xt⟩
theorem JX (a:Tag){F:Nat→Prop}   : Calls Tryz.prog 100 [.agg #[.string (bs a.key),.string (bs a.val)]].toArray w (Af fun rv w'=>VS (ge w.heap.size) w' (a:Tag) rv∧Ext w w'):=by
 refine goT func100 ?_
 have Z:=St.i0 F w
 exact .s<|.g<|RG.Np Z fun aa w Z=>RG.Np Z fun ab w Z=>.d<|.s<|.g<|RG.Np Z fun ac w Z=>.d<|.s<|.g<|.r 1<|RG.Lb 2 Z<|.r 1<|RG.Ss 0 Z fun w Z=>.d<|.s<|.g<|.r 1<|RG.Lb 2 Z<|.r 1<|RG.Ss 0 Z fun w Z=>.d<|.s<|.g<|RG.Ln 0 Z<|RG.Ss 1 Z fun w Z=>.d<|T.Rb 1 func100 results100 Z ⟨Z.rS a [] rfl,Z.xt⟩
theorem Gg (a:Row){F:Nat→Prop}   : Calls Tryz.prog 41 [.agg #[.int .i64 a.t,.int .i64 a.v]].toArray w (Af fun rv w'=>VS (ge w.heap.size) w' (a:Row) rv∧Ext w w'):=by
 refine goT func41 ?_
 have Z:=St.i0 F w
 exact .s<|.g<|RG.Np Z fun aa w Z=>RG.Np Z fun ab w Z=>.d<|.s<|.g<|RG.Np Z fun ac w Z=>.d<|.s<|.g<|.r 1<|RG.Lb 2 Z<|.r 1<|RG.Ss 0 Z fun w Z=>.d<|.s<|.g<|.r 1<|RG.Lb 2 Z<|.r 1<|RG.Ss 0 Z fun w Z=>.d<|.s<|.g<|RG.Ln 0 Z<|RG.Ss 1 Z fun w Z=>.d<|T.Rb 1 func41 results41 Z ⟨Z.rS a [] rfl,Z.xt⟩
theorem Kx (a:Smp){F:Nat→Prop}   : Calls Tryz.prog 155 [.agg #[.int .i64 a.id,.int .i64 a.row.t,.int .i64 a.row.v]].toArray w (Af fun rv w'=>VS (ge w.heap.size) w' (a:Smp) rv∧Ext w w'):=by
 refine goT func155 ?_
 have Z:=St.i0 F w
 exact .s<|.g<|RG.Np Z fun aa w Z=>RG.Np Z fun ab w Z=>.d<|.s<|.g<|RG.Np Z fun ac w Z=>.d<|.s<|.g<|.r 1<|RG.Lb 2 Z<|.r 1<|RG.Ss 0 Z fun w Z=>.d<|.s<|.g<|.r 1<|RG.Ln 2 Z<|RG.CS (Gg a.row (F:=all)) Z fun  w Z=>.r 1<|RG.Ss 0 Z fun w Z=>.d<|.s<|.g<|RG.Ln 0 Z<|RG.Ss 1 Z fun w Z=>.d<|T.Rb 1 func155 results155 Z ⟨Z.rS a [] rfl,Z.xt⟩
theorem JY (a:Tag) (b:Tag){F:Nat→Prop}   : Calls Tryz.prog 106 [.agg #[.string (bs a.key),.string (bs a.val)],.agg #[.string (bs b.key),.string (bs b.val)]].toArray w (Af fun rv w'=>rv=.bool ((a==b))∧Ext w w'):=by
 refine goT func106 ?_
 have Z:=St.i0 F w
 refine .s<|.g<|RG.Np Z fun ac w Z=>RG.Np Z fun ae w Z=>.r 1<|.d<|.s<|.s<|.g<|.r 1<|RG.Lb 1 Z<|.r 1<|RG.Lb 0 Z<|RG.eqv (v:=.bool (!(a.key==b.key))) AA (O3 a.key b.key) ?_
 cases aa:(a.key==b.key)
 ·exact .d<|.ct<|.s<|.g<|.r 1<|.d<|T.rt func106 results106 (.bool false) ⟨(AG (by cases a; cases b; grind)),Z.xt⟩
 refine .d<|.cf<|.sk<|.s<|.s<|.g<|.r 1<|RG.Lb 1 Z<|.r 1<|RG.Lb 0 Z<|RG.eqv (v:=.bool (!(a.val==b.val))) AA (O3 a.val b.val) ?_
 cases ab:(a.val==b.val)
 ·exact .d<|.ct<|.s<|.g<|.r 1<|.d<|T.rt func106 results106 (.bool false) ⟨(AG (by cases a; cases b; grind)),Z.xt⟩
 exact .d<|.cf<|.sk<|.s<|.g<|.r 1<|.d<|T.rt func106 results106 (.bool true) ⟨(AG (by cases a; cases b; grind)),Z.xt⟩
theorem IT (a:List Tag) (b:List Tag) (h1:RepS w F a1 n1 c1 a) (h2:RepS w F a2 n2 c2 b)  : Calls Tryz.prog 45 [.slice a1 n1 c1,.slice a2 n2 c2].toArray w (Af fun rv w'=>rv=.bool ((a==b))∧Ext w w'):=by
 cases h1.len
 cases h2.len
 refine goT func45 ?_
 have Z:=((St.i0 F w).p h1).p h2
 have ak:=h1.max
 refine .s<|.g<|.r 1<|.d<|.s<|.s<|.g<|.r 4<|.ne (a.length:Int) (b.length:Int) (fun ae=>.d<|.ct<|.s<|.g<|.r 1<|.d<|T.rt func45 results45 (.bool false) ⟨(AG (by grind [Aa])),Z.xt⟩) fun ae=>.d<|.cf<|.sk<|.s<|.s<|.g<|.r 1<|.d<|.b 0<|T.Lp (0:Nat) (fun i=>([(0,.slice a1 a.length c1),(1,.slice a2 b.length c2),(5,vI (i:Int))],[],[],a.length - i,(i≤a.length)∧(a.drop i=b.drop i↔a=b))) [] Z ⟨AD,AD⟩ ?_
 rintro i az w Z ⟨ao,aq⟩ ac
 refine .s<|.s<|.g<|.r 3<|.bp ((i:Int)< (a.length:Int)) (fun af=>?_) (fun af=>.d<|.cf<|.x 0 rfl<|.s<|.g<|.r 1<|.d<|T.rt func45 results45 (.bool true) ⟨(AG (by grind [Aa])),Z.xt⟩)
 refine .d<|.ct<|.sk<|.s<|.b 1<|.s<|T.Gd 8 Z fun w Z=>.r [0,1]<|gx a i fun ag aa=>?_
 have ar:=Ab aa
 refine GA.Ix 2 1 aa Z<|Z.el 1 aa fun Z=>GA.Lg 3 0 0 Z<|.r [4,5]<|gx b i fun ah ab=>?_
 have ax:=Ab ab
 refine GA.Ix 6 1 ab Z<|Z.el 1 ab fun Z=>GA.Lg 7 0 0 Z<|GA.Dn Z fun w Z=>RG.C0 (JY ag ah (F:=all)) Z fun w Z=>?_
 cases ay:(ag==ah)
 ·exact .r 1<|.d<|.ct<|.s<|.g<|.r 1<|.d<|T.rt func45 results45 (.bool false) ⟨(AG (by grind [Aa])),Z.xt⟩
 exact .r 1<|.d<|.cf<|.sk<|.ib 1<|.g<|.r 1<|.it ((i:Int)+1)<|.r 1<|.d<|ac (i+1) _ _ AA (Z.to 0 [] 2) ⟨AB,(by grind)⟩ (by (simp only []; omega))
theorem Hg (a:List (List Tag)) (b:List (List Tag)) (h1:RepS w F a1 n1 c1 a) (h2:RepS w F a2 n2 c2 b)  : Calls Tryz.prog 72 [.slice a1 n1 c1,.slice a2 n2 c2].toArray w (Af fun rv w'=>rv=.bool ((a==b))∧Ext w w'):=by
 cases h1.len
 cases h2.len
 refine goT func72 ?_
 have Z:=((St.i0 F w).p h1).p h2
 have ak:=h1.max
 refine .s<|.g<|.r 1<|.d<|.s<|.s<|.g<|.r 4<|.ne (a.length:Int) (b.length:Int) (fun ae=>.d<|.ct<|.s<|.g<|.r 1<|.d<|T.rt func72 results72 (.bool false) ⟨(AG (by grind [Aa])),Z.xt⟩) fun ae=>.d<|.cf<|.sk<|.s<|.s<|.g<|.r 1<|.d<|.b 0<|T.Lp (0:Nat) (fun i=>([(0,.slice a1 a.length c1),(1,.slice a2 b.length c2),(5,vI (i:Int))],[],[],a.length - i,(i≤a.length)∧(a.drop i=b.drop i↔a=b))) [] Z ⟨AD,AD⟩ ?_
 rintro i az w Z ⟨ao,aq⟩ ac
 refine .s<|.s<|.g<|.r 3<|.bp ((i:Int)< (a.length:Int)) (fun af=>?_) (fun af=>.d<|.cf<|.x 0 rfl<|.s<|.g<|.r 1<|.d<|T.rt func72 results72 (.bool true) ⟨(AG (by grind [Aa])),Z.xt⟩)
 refine .d<|.ct<|.sk<|.s<|.b 1<|.s<|T.Gd 8 Z fun w Z=>.r [0,1]<|gx a i fun ag aa=>?_
 have ar:=Ab aa
 refine GA.Ix 2 1 aa Z<|Z.el 1 aa fun aA aB Z=>GA.Lh 3 0 0 Z<|.r [4,5]<|gx b i fun ah ab=>?_
 have ax:=Ab ab
 refine GA.Ix 6 2 ab Z<|Z.el 2 ab fun aC aD Z=>GA.Lh 7 0 0 Z<|GA.Dn Z fun w Z=>RG.C0 (IT ag ah (Z.a 3) (Z.a 1)) Z fun w Z=>?_
 cases ay:(ag==ah)
 ·exact .r 1<|.d<|.ct<|.s<|.g<|.r 1<|.d<|T.rt func72 results72 (.bool false) ⟨(AG (by grind [Aa])),Z.xt⟩
 exact .r 1<|.d<|.cf<|.sk<|.ib 1<|.g<|.r 1<|.it ((i:Int)+1)<|.r 1<|.d<|ac (i+1) _ _ AA (Z.to 0 [] 4) ⟨AB,(by grind)⟩ (by (simp only []; omega))
theorem Fy (a:List Int) (b:List Int) (h1:RepS w F a1 n1 c1 a) (h2:RepS w F a2 n2 c2 b)  : Calls Tryz.prog 71 [.slice a1 n1 c1,.slice a2 n2 c2].toArray w (Af fun rv w'=>rv=.bool ((a==b))∧Ext w w'):=by
 cases h1.len
 cases h2.len
 refine goT func71 ?_
 have Z:=((St.i0 F w).p h1).p h2
 have am:=h1.max
 refine .s<|.g<|.r 1<|.d<|.s<|.s<|.g<|.r 4<|.ne (a.length:Int) (b.length:Int) (fun ae=>.d<|.ct<|.s<|.g<|.r 1<|.d<|T.rt func71 results71 (.bool false) ⟨(AG (by grind [Aa])),Z.xt⟩) fun ae=>.d<|.cf<|.sk<|.s<|.s<|.g<|.r 1<|.d<|.b 0<|T.Lp (0:Nat) (fun i=>([(0,.slice a1 a.length c1),(1,.slice a2 b.length c2),(5,vI (i:Int))],[],[],a.length - i,(i≤a.length)∧(a.drop i=b.drop i↔a=b))) [] Z ⟨AD,AD⟩ ?_
 rintro i az w Z ⟨aq,ar⟩ ac
 refine .s<|.s<|.g<|.r 3<|.bp ((i:Int)< (a.length:Int)) (fun af=>?_) (fun af=>.d<|.cf<|.x 0 rfl<|.s<|.g<|.r 1<|.d<|T.rt func71 results71 (.bool true) ⟨(AG (by grind [Aa])),Z.xt⟩)
 refine .d<|.ct<|.sk<|.s<|.b 1<|.s<|T.Gd 8 Z fun w Z=>.r [0,1]<|gx a i fun aj aa=>?_
 have ax:=Ab aa
 refine GA.Ix 2 1 aa Z<|Z.el 1 aa fun Z=>GA.Lh 3 0 0 Z<|.r [4,5]<|gx b i fun ak ab=>?_
 have ay:=Ab ab
 exact GA.Ix 6 1 ab Z<|Z.el 1 ab fun Z=>GA.Lh 7 0 0 Z<|GA.Dn Z fun w Z=>.ne aj ak (fun ag=>.d<|.ct<|.s<|.g<|.r 1<|.d<|T.rt func71 results71 (.bool false) ⟨(AG (by grind [Aa])),Z.xt⟩) fun ag=>.d<|.cf<|.sk<|.ib 1<|.g<|.r 1<|.it ((i:Int)+1)<|.r 1<|.d<|ac (i+1) _ _ AA (Z.to 0 [] 2) ⟨AB,(by grind)⟩ (by (simp only []; omega))
theorem NB (a:Pst) (b:Pst) (h1:RepS w F a1 n1 c1 a.ids) (h2:RepS w F a2 n2 c2 b.ids)  : Calls Tryz.prog 189 [.agg #[.string (bs a.tag.key),.string (bs a.tag.val),.slice a1 n1 c1],.agg #[.string (bs b.tag.key),.string (bs b.tag.val),.slice a2 n2 c2]].toArray w (Af fun rv w'=>rv=.bool ((a==b))∧Ext w w'):=by
 cases h1.len
 cases h2.len
 refine goT func189 ?_
 have Z:=((St.i0 F w).p h1).p h2
 have aa:=h1.max
 have ab:=h2.max
 refine .s<|.g<|RG.Np Z fun af w Z=>RG.Np Z fun ag w Z=>.r 1<|.d<|.s<|.s<|.g<|.r 1<|RG.Ln 1 Z<|.r 1<|RG.Ln 0 Z<|RG.C0 (JY a.tag b.tag (F:=all)) Z fun w Z=>?_
 cases ac:(a.tag==b.tag)
 ·exact .r 1<|.d<|.ct<|.s<|.g<|.r 1<|.d<|T.rt func189 results189 (.bool false) ⟨(AG (by cases a; cases b; grind)),Z.xt⟩
 refine .r 1<|.d<|.cf<|.sk<|.s<|.s<|.g<|.r 1<|RG.Lb 1 Z<|.r 1<|RG.Lb 0 Z<|RG.C0 (Fy a.ids b.ids (Z.a 1) (Z.a 0)) Z fun w Z=>?_
 cases ae:(a.ids==b.ids)
 ·exact .r 1<|.d<|.ct<|.s<|.g<|.r 1<|.d<|T.rt func189 results189 (.bool false) ⟨(AG (by cases a; cases b; grind)),Z.xt⟩
 exact .r 1<|.d<|.cf<|.sk<|.s<|.g<|.r 1<|.d<|T.rt func189 results189 (.bool true) ⟨(AG (by cases a; cases b; grind)),Z.xt⟩
theorem MR (a:List Pst) (b:List Pst) (h1:RepS w F a1 n1 c1 a) (h2:RepS w F a2 n2 c2 b)  : Calls Tryz.prog 136 [.slice a1 n1 c1,.slice a2 n2 c2].toArray w (Af fun rv w'=>rv=.bool ((a==b))∧Ext w w'):=by
 cases h1.len
 cases h2.len
 refine goT func136 ?_
 have Z:=((St.i0 F w).p h1).p h2
 have ak:=h1.max
 refine .s<|.g<|.r 1<|.d<|.s<|.s<|.g<|.r 4<|.ne (a.length:Int) (b.length:Int) (fun ae=>.d<|.ct<|.s<|.g<|.r 1<|.d<|T.rt func136 results136 (.bool false) ⟨(AG (by grind [Aa])),Z.xt⟩) fun ae=>.d<|.cf<|.sk<|.s<|.s<|.g<|.r 1<|.d<|.b 0<|T.Lp (0:Nat) (fun i=>([(0,.slice a1 a.length c1),(1,.slice a2 b.length c2),(5,vI (i:Int))],[],[],a.length - i,(i≤a.length)∧(a.drop i=b.drop i↔a=b))) [] Z ⟨AD,AD⟩ ?_
 rintro i az w Z ⟨ao,aq⟩ ac
 refine .s<|.s<|.g<|.r 3<|.bp ((i:Int)< (a.length:Int)) (fun af=>?_) (fun af=>.d<|.cf<|.x 0 rfl<|.s<|.g<|.r 1<|.d<|T.rt func136 results136 (.bool true) ⟨(AG (by grind [Aa])),Z.xt⟩)
 refine .d<|.ct<|.sk<|.s<|.b 1<|.s<|T.Gd 8 Z fun w Z=>.r [0,1]<|gx a i fun ag aa=>?_
 have ar:=Ab aa
 refine GA.Ix 2 1 aa Z<|Z.el 1 aa fun aA aB Z=>GA.Lg 3 0 0 Z<|.r [4,5]<|gx b i fun ah ab=>?_
 have ax:=Ab ab
 refine GA.Ix 6 2 ab Z<|Z.el 2 ab fun aC aD Z=>GA.Lg 7 0 0 Z<|GA.Dn Z fun w Z=>RG.C0 (NB ag ah (Z.a 3) (Z.a 1)) Z fun w Z=>?_
 cases ay:(ag==ah)
 ·exact .r 1<|.d<|.ct<|.s<|.g<|.r 1<|.d<|T.rt func136 results136 (.bool false) ⟨(AG (by grind [Aa])),Z.xt⟩
 exact .r 1<|.d<|.cf<|.sk<|.ib 1<|.g<|.r 1<|.it ((i:Int)+1)<|.r 1<|.d<|ac (i+1) _ _ AA (Z.to 0 [] 4) ⟨AB,(by grind)⟩ (by (simp only []; omega))
theorem MS (a:Idx) (b:Idx) (h1:RepS w F a1 n1 c1 a.names) (h2:RepS w F a2 n2 c2 a.AX) (h3:RepS w F a3 n3 c3 b.names) (h4:RepS w F a4 n4 c4 b.AX)  : Calls Tryz.prog 67 [.agg #[.slice a1 n1 c1,.slice a2 n2 c2],.agg #[.slice a3 n3 c3,.slice a4 n4 c4]].toArray w (Af fun rv w'=>rv=.bool ((a==b))∧Ext w w'):=by
 cases h1.len
 cases h2.len
 cases h3.len
 cases h4.len
 refine goT func67 ?_
 have Z:=((((St.i0 F w).p h1).p h2).p h3).p h4
 have aa:=h1.max
 have ab:=h2.max
 have ac:=h3.max
 have ae:=h4.max
 refine .s<|.g<|RG.Np Z fun ah w Z=>RG.Np Z fun ai w Z=>.r 1<|.d<|.s<|.s<|.g<|.r 1<|RG.Lb 1 Z<|.r 1<|RG.Lb 0 Z<|RG.C0 (Hg a.names b.names (Z.a 3) (Z.a 1)) Z fun w Z=>?_
 cases af:(a.names==b.names)
 ·exact .r 1<|.d<|.ct<|.s<|.g<|.r 1<|.d<|T.rt func67 results67 (.bool false) ⟨(AG (by cases a; cases b; grind)),Z.xt⟩
 refine .r 1<|.d<|.cf<|.sk<|.s<|.s<|.g<|.r 1<|RG.Lb 1 Z<|.r 1<|RG.Lb 0 Z<|RG.C0 (MR a.AX b.AX (Z.a 2) (Z.a 0)) Z fun w Z=>?_
 cases ag:(a.AX==b.AX)
 ·exact .r 1<|.d<|.ct<|.s<|.g<|.r 1<|.d<|T.rt func67 results67 (.bool false) ⟨(AG (by cases a; cases b; grind)),Z.xt⟩
 exact .r 1<|.d<|.cf<|.sk<|.s<|.g<|.r 1<|.d<|T.rt func67 results67 (.bool true) ⟨(AG (by cases a; cases b; grind)),Z.xt⟩
theorem Gh (a:Row) (b:Row){F:Nat→Prop}   : Calls Tryz.prog 46 [.agg #[.int .i64 a.t,.int .i64 a.v],.agg #[.int .i64 b.t,.int .i64 b.v]].toArray w (Af fun rv w'=>rv=.bool ((a==b))∧Ext w w'):=by
 refine goT func46 ?_
 have Z:=St.i0 F w
 exact .s<|.g<|RG.Np Z fun ac w Z=>RG.Np Z fun ae w Z=>.r 1<|.d<|.s<|.s<|.g<|.r 1<|RG.Lb 1 Z<|.r 1<|RG.Lb 0 Z<|.ne a.t b.t (fun aa=>.d<|.ct<|.s<|.g<|.r 1<|.d<|T.rt func46 results46 (.bool false) ⟨(AG (by cases a; cases b; grind)),Z.xt⟩) fun aa=>.d<|.cf<|.sk<|.s<|.s<|.g<|.r 1<|RG.Lb 1 Z<|.r 1<|RG.Lb 0 Z<|.ne a.v b.v (fun ab=>.d<|.ct<|.s<|.g<|.r 1<|.d<|T.rt func46 results46 (.bool false) ⟨(AG (by cases a; cases b; grind)),Z.xt⟩) fun ab=>.d<|.cf<|.sk<|.s<|.g<|.r 1<|.d<|T.rt func46 results46 (.bool true) ⟨(AG (by cases a; cases b; grind)),Z.xt⟩
theorem NC (a:List Row) (b:List Row) (h1:RepS w F a1 n1 c1 a) (h2:RepS w F a2 n2 c2 b)  : Calls Tryz.prog 218 [.slice a1 n1 c1,.slice a2 n2 c2].toArray w (Af fun rv w'=>rv=.bool ((a==b))∧Ext w w'):=by
 cases h1.len
 cases h2.len
 refine goT func218 ?_
 have Z:=((St.i0 F w).p h1).p h2
 have ak:=h1.max
 refine .s<|.g<|.r 1<|.d<|.s<|.s<|.g<|.r 4<|.ne (a.length:Int) (b.length:Int) (fun ae=>.d<|.ct<|.s<|.g<|.r 1<|.d<|T.rt func218 results218 (.bool false) ⟨(AG (by grind [Aa])),Z.xt⟩) fun ae=>.d<|.cf<|.sk<|.s<|.s<|.g<|.r 1<|.d<|.b 0<|T.Lp (0:Nat) (fun i=>([(0,.slice a1 a.length c1),(1,.slice a2 b.length c2),(5,vI (i:Int))],[],[],a.length - i,(i≤a.length)∧(a.drop i=b.drop i↔a=b))) [] Z ⟨AD,AD⟩ ?_
 rintro i az w Z ⟨ao,aq⟩ ac
 refine .s<|.s<|.g<|.r 3<|.bp ((i:Int)< (a.length:Int)) (fun af=>?_) (fun af=>.d<|.cf<|.x 0 rfl<|.s<|.g<|.r 1<|.d<|T.rt func218 results218 (.bool true) ⟨(AG (by grind [Aa])),Z.xt⟩)
 refine .d<|.ct<|.sk<|.s<|.b 1<|.s<|T.Gd 8 Z fun w Z=>.r [0,1]<|gx a i fun ag aa=>?_
 have ar:=Ab aa
 refine GA.Ix 2 1 aa Z<|Z.el 1 aa fun Z=>GA.Lg 3 0 0 Z<|.r [4,5]<|gx b i fun ah ab=>?_
 have ax:=Ab ab
 refine GA.Ix 6 1 ab Z<|Z.el 1 ab fun Z=>GA.Lg 7 0 0 Z<|GA.Dn Z fun w Z=>RG.C0 (Gh ag ah (F:=all)) Z fun w Z=>?_
 cases ay:(ag==ah)
 ·exact .r 1<|.d<|.ct<|.s<|.g<|.r 1<|.d<|T.rt func218 results218 (.bool false) ⟨(AG (by grind [Aa])),Z.xt⟩
 exact .r 1<|.d<|.cf<|.sk<|.ib 1<|.g<|.r 1<|.it ((i:Int)+1)<|.r 1<|.d<|ac (i+1) _ _ AA (Z.to 0 [] 2) ⟨AB,(by grind)⟩ (by (simp only []; omega))
theorem MU (a:List (List Row)) (b:List (List Row)) (h1:RepS w F a1 n1 c1 a) (h2:RepS w F a2 n2 c2 b)  : Calls Tryz.prog 190 [.slice a1 n1 c1,.slice a2 n2 c2].toArray w (Af fun rv w'=>rv=.bool ((a==b))∧Ext w w'):=by
 cases h1.len
 cases h2.len
 refine goT func190 ?_
 have Z:=((St.i0 F w).p h1).p h2
 have ak:=h1.max
 refine .s<|.g<|.r 1<|.d<|.s<|.s<|.g<|.r 4<|.ne (a.length:Int) (b.length:Int) (fun ae=>.d<|.ct<|.s<|.g<|.r 1<|.d<|T.rt func190 results190 (.bool false) ⟨(AG (by grind [Aa])),Z.xt⟩) fun ae=>.d<|.cf<|.sk<|.s<|.s<|.g<|.r 1<|.d<|.b 0<|T.Lp (0:Nat) (fun i=>([(0,.slice a1 a.length c1),(1,.slice a2 b.length c2),(5,vI (i:Int))],[],[],a.length - i,(i≤a.length)∧(a.drop i=b.drop i↔a=b))) [] Z ⟨AD,AD⟩ ?_
 rintro i az w Z ⟨ao,aq⟩ ac
 refine .s<|.s<|.g<|.r 3<|.bp ((i:Int)< (a.length:Int)) (fun af=>?_) (fun af=>.d<|.cf<|.x 0 rfl<|.s<|.g<|.r 1<|.d<|T.rt func190 results190 (.bool true) ⟨(AG (by grind [Aa])),Z.xt⟩)
 refine .d<|.ct<|.sk<|.s<|.b 1<|.s<|T.Gd 8 Z fun w Z=>.r [0,1]<|gx a i fun ag aa=>?_
 have ar:=Ab aa
 refine GA.Ix 2 1 aa Z<|Z.el 1 aa fun aA aB Z=>GA.Lh 3 0 0 Z<|.r [4,5]<|gx b i fun ah ab=>?_
 have ax:=Ab ab
 refine GA.Ix 6 2 ab Z<|Z.el 2 ab fun aC aD Z=>GA.Lh 7 0 0 Z<|GA.Dn Z fun w Z=>RG.C0 (NC ag ah (Z.a 3) (Z.a 1)) Z fun w Z=>?_
 cases ay:(ag==ah)
 ·exact .r 1<|.d<|.ct<|.s<|.g<|.r 1<|.d<|T.rt func190 results190 (.bool false) ⟨(AG (by grind [Aa])),Z.xt⟩
 exact .r 1<|.d<|.cf<|.sk<|.ib 1<|.g<|.r 1<|.it ((i:Int)+1)<|.r 1<|.d<|ac (i+1) _ _ AA (Z.to 0 [] 4) ⟨AB,(by grind)⟩ (by (simp only []; omega))
theorem IU (a:Prt) (b:Prt) (h1:RepS w F a1 n1 c1 a.ids) (h2:RepS w F a2 n2 c2 a.blocks) (h3:RepS w F a3 n3 c3 b.ids) (h4:RepS w F a4 n4 c4 b.blocks)  : Calls Tryz.prog 137 [.agg #[.slice a1 n1 c1,.slice a2 n2 c2],.agg #[.slice a3 n3 c3,.slice a4 n4 c4]].toArray w (Af fun rv w'=>rv=.bool ((a==b))∧Ext w w'):=by
 cases h1.len
 cases h2.len
 cases h3.len
 cases h4.len
 refine goT func137 ?_
 have Z:=((((St.i0 F w).p h1).p h2).p h3).p h4
 have aa:=h1.max
 have ab:=h2.max
 have ac:=h3.max
 have ae:=h4.max
 refine .s<|.g<|RG.Np Z fun ah w Z=>RG.Np Z fun ai w Z=>.r 1<|.d<|.s<|.s<|.g<|.r 1<|RG.Lb 1 Z<|.r 1<|RG.Lb 0 Z<|RG.C0 (Fy a.ids b.ids (Z.a 3) (Z.a 1)) Z fun w Z=>?_
 cases af:(a.ids==b.ids)
 ·exact .r 1<|.d<|.ct<|.s<|.g<|.r 1<|.d<|T.rt func137 results137 (.bool false) ⟨(AG (by cases a; cases b; grind)),Z.xt⟩
 refine .r 1<|.d<|.cf<|.sk<|.s<|.s<|.g<|.r 1<|RG.Lb 1 Z<|.r 1<|RG.Lb 0 Z<|RG.C0 (MU a.blocks b.blocks (Z.a 2) (Z.a 0)) Z fun w Z=>?_
 cases ag:(a.blocks==b.blocks)
 ·exact .r 1<|.d<|.ct<|.s<|.g<|.r 1<|.d<|T.rt func137 results137 (.bool false) ⟨(AG (by cases a; cases b; grind)),Z.xt⟩
 exact .r 1<|.d<|.cf<|.sk<|.s<|.g<|.r 1<|.d<|T.rt func137 results137 (.bool true) ⟨(AG (by cases a; cases b; grind)),Z.xt⟩
theorem MW (a:List Prt) (b:List Prt) (h1:RepS w F a1 n1 c1 a) (h2:RepS w F a2 n2 c2 b)  : Calls Tryz.prog 68 [.slice a1 n1 c1,.slice a2 n2 c2].toArray w (Af fun rv w'=>rv=.bool ((a==b))∧Ext w w'):=by
 cases h1.len
 cases h2.len
 refine goT func68 ?_
 have Z:=((St.i0 F w).p h1).p h2
 have ak:=h1.max
 refine .s<|.g<|.r 1<|.d<|.s<|.s<|.g<|.r 4<|.ne (a.length:Int) (b.length:Int) (fun ae=>.d<|.ct<|.s<|.g<|.r 1<|.d<|T.rt func68 results68 (.bool false) ⟨(AG (by grind [Aa])),Z.xt⟩) fun ae=>.d<|.cf<|.sk<|.s<|.s<|.g<|.r 1<|.d<|.b 0<|T.Lp (0:Nat) (fun i=>([(0,.slice a1 a.length c1),(1,.slice a2 b.length c2),(5,vI (i:Int))],[],[],a.length - i,(i≤a.length)∧(a.drop i=b.drop i↔a=b))) [] Z ⟨AD,AD⟩ ?_
 rintro i az w Z ⟨ao,aq⟩ ac
 refine .s<|.s<|.g<|.r 3<|.bp ((i:Int)< (a.length:Int)) (fun af=>?_) (fun af=>.d<|.cf<|.x 0 rfl<|.s<|.g<|.r 1<|.d<|T.rt func68 results68 (.bool true) ⟨(AG (by grind [Aa])),Z.xt⟩)
 refine .d<|.ct<|.sk<|.s<|.b 1<|.s<|T.Gd 8 Z fun w Z=>.r [0,1]<|gx a i fun ag aa=>?_
 have ar:=Ab aa
 refine GA.Ix 2 1 aa Z<|Z.el 1 aa fun aA aB aC aD Z=>GA.Lg 3 0 0 Z<|.r [4,5]<|gx b i fun ah ab=>?_
 have ax:=Ab ab
 refine GA.Ix 6 3 ab Z<|Z.el 3 ab fun aE aF aG aH Z=>GA.Lg 7 0 0 Z<|GA.Dn Z fun w Z=>RG.C0 (IU ag ah (Z.a 4) (Z.a 5) (Z.a 1) (Z.a 2)) Z fun w Z=>?_
 cases ay:(ag==ah)
 ·exact .r 1<|.d<|.ct<|.s<|.g<|.r 1<|.d<|T.rt func68 results68 (.bool false) ⟨(AG (by grind [Aa])),Z.xt⟩
 exact .r 1<|.d<|.cf<|.sk<|.ib 1<|.g<|.r 1<|.it ((i:Int)+1)<|.r 1<|.d<|ac (i+1) _ _ AA (Z.to 0 [] 6) ⟨AB,(by grind)⟩ (by (simp only []; omega))
theorem Ky (a:Smp) (b:Smp){F:Nat→Prop}   : Calls Tryz.prog 138 [.agg #[.int .i64 a.id,.int .i64 a.row.t,.int .i64 a.row.v],.agg #[.int .i64 b.id,.int .i64 b.row.t,.int .i64 b.row.v]].toArray w (Af fun rv w'=>rv=.bool ((a==b))∧Ext w w'):=by
 refine goT func138 ?_
 have Z:=St.i0 F w
 refine .s<|.g<|RG.Np Z fun ac w Z=>RG.Np Z fun ae w Z=>.r 1<|.d<|.s<|.s<|.g<|.r 1<|RG.Lb 1 Z<|.r 1<|RG.Lb 0 Z<|.ne a.id b.id (fun aa=>.d<|.ct<|.s<|.g<|.r 1<|.d<|T.rt func138 results138 (.bool false) ⟨(AG (by cases a; cases b; grind)),Z.xt⟩) fun aa=>.d<|.cf<|.sk<|.s<|.s<|.g<|.r 1<|RG.Ln 1 Z<|.r 1<|RG.Ln 0 Z<|RG.C0 (Gh a.row b.row (F:=all)) Z fun w Z=>?_
 cases ab:(a.row==b.row)
 ·exact .r 1<|.d<|.ct<|.s<|.g<|.r 1<|.d<|T.rt func138 results138 (.bool false) ⟨(AG (by cases a; cases b; grind)),Z.xt⟩
 exact .r 1<|.d<|.cf<|.sk<|.s<|.g<|.r 1<|.d<|T.rt func138 results138 (.bool true) ⟨(AG (by cases a; cases b; grind)),Z.xt⟩
theorem KG (a:List Smp) (b:List Smp) (h1:RepS w F a1 n1 c1 a) (h2:RepS w F a2 n2 c2 b)  : Calls Tryz.prog 69 [.slice a1 n1 c1,.slice a2 n2 c2].toArray w (Af fun rv w'=>rv=.bool ((a==b))∧Ext w w'):=by
 cases h1.len
 cases h2.len
 refine goT func69 ?_
 have Z:=((St.i0 F w).p h1).p h2
 have ak:=h1.max
 refine .s<|.g<|.r 1<|.d<|.s<|.s<|.g<|.r 4<|.ne (a.length:Int) (b.length:Int) (fun ae=>.d<|.ct<|.s<|.g<|.r 1<|.d<|T.rt func69 results69 (.bool false) ⟨(AG (by grind [Aa])),Z.xt⟩) fun ae=>.d<|.cf<|.sk<|.s<|.s<|.g<|.r 1<|.d<|.b 0<|T.Lp (0:Nat) (fun i=>([(0,.slice a1 a.length c1),(1,.slice a2 b.length c2),(5,vI (i:Int))],[],[],a.length - i,(i≤a.length)∧(a.drop i=b.drop i↔a=b))) [] Z ⟨AD,AD⟩ ?_
 rintro i az w Z ⟨ao,aq⟩ ac
 refine .s<|.s<|.g<|.r 3<|.bp ((i:Int)< (a.length:Int)) (fun af=>?_) (fun af=>.d<|.cf<|.x 0 rfl<|.s<|.g<|.r 1<|.d<|T.rt func69 results69 (.bool true) ⟨(AG (by grind [Aa])),Z.xt⟩)
 refine .d<|.ct<|.sk<|.s<|.b 1<|.s<|T.Gd 8 Z fun w Z=>.r [0,1]<|gx a i fun ag aa=>?_
 have ar:=Ab aa
 refine GA.Ix 2 1 aa Z<|Z.el 1 aa fun Z=>GA.Lg 3 0 0 Z<|.r [4,5]<|gx b i fun ah ab=>?_
 have ax:=Ab ab
 refine GA.Ix 6 1 ab Z<|Z.el 1 ab fun Z=>GA.Lg 7 0 0 Z<|GA.Dn Z fun w Z=>RG.C0 (Ky ag ah (F:=all)) Z fun w Z=>?_
 cases ay:(ag==ah)
 ·exact .r 1<|.d<|.ct<|.s<|.g<|.r 1<|.d<|T.rt func69 results69 (.bool false) ⟨(AG (by grind [Aa])),Z.xt⟩
 exact .r 1<|.d<|.cf<|.sk<|.ib 1<|.g<|.r 1<|.it ((i:Int)+1)<|.r 1<|.d<|ac (i+1) _ _ AA (Z.to 0 [] 2) ⟨AB,(by grind)⟩ (by (simp only []; omega))
theorem MX (a:Sto) (b:Sto) (h1:RepS w F a1 n1 c1 a.idx.names) (h2:RepS w F a2 n2 c2 a.idx.AX) (h3:RepS w F a3 n3 c3 a.parts) (h4:RepS w F a4 n4 c4 a.mem) (h5:RepS w F a5 n5 c5 b.idx.names) (h6:RepS w F a6 n6 c6 b.idx.AX) (h7:RepS w F a7 n7 c7 b.parts) (h8:RepS w F a8 n8 c8 b.mem)  : Calls Tryz.prog 27 [.agg #[.slice a1 n1 c1,.slice a2 n2 c2,.slice a3 n3 c3,.slice a4 n4 c4],.agg #[.slice a5 n5 c5,.slice a6 n6 c6,.slice a7 n7 c7,.slice a8 n8 c8]].toArray w (Af fun rv w'=>rv=.bool ((a==b))∧Ext w w'):=by
 cases h1.len
 cases h2.len
 cases h3.len
 cases h4.len
 cases h5.len
 cases h6.len
 cases h7.len
 cases h8.len
 refine goT func27 ?_
 have Z:=((((((((St.i0 F w).p h1).p h2).p h3).p h4).p h5).p h6).p h7).p h8
 have aa:=h1.max
 have ab:=h2.max
 have ac:=h3.max
 have ae:=h4.max
 have af:=h5.max
 have ag:=h6.max
 have ah:=h7.max
 have ai:=h8.max
 refine .s<|.g<|RG.Np Z fun ao w Z=>RG.Np Z fun aq w Z=>.r 1<|.d<|.s<|.s<|.g<|.r 1<|RG.Ln 1 Z<|.r 1<|RG.Ln 0 Z<|RG.C0 (MS a.idx b.idx (Z.a 7) (Z.a 6) (Z.a 3) (Z.a 2)) Z fun w Z=>?_
 cases aj:(a.idx==b.idx)
 ·exact .r 1<|.d<|.ct<|.s<|.g<|.r 1<|.d<|T.rt func27 results27 (.bool false) ⟨(AG (by cases a; cases b; grind)),Z.xt⟩
 refine .r 1<|.d<|.cf<|.sk<|.s<|.s<|.g<|.r 1<|RG.Lb 1 Z<|.r 1<|RG.Lb 0 Z<|RG.C0 (MW a.parts b.parts (Z.a 5) (Z.a 1)) Z fun w Z=>?_
 cases ak:(a.parts==b.parts)
 ·exact .r 1<|.d<|.ct<|.s<|.g<|.r 1<|.d<|T.rt func27 results27 (.bool false) ⟨(AG (by cases a; cases b; grind)),Z.xt⟩
 refine .r 1<|.d<|.cf<|.sk<|.s<|.s<|.g<|.r 1<|RG.Lb 1 Z<|.r 1<|RG.Lb 0 Z<|RG.C0 (KG a.mem b.mem (Z.a 4) (Z.a 0)) Z fun w Z=>?_
 cases am:(a.mem==b.mem)
 ·exact .r 1<|.d<|.ct<|.s<|.g<|.r 1<|.d<|T.rt func27 results27 (.bool false) ⟨(AG (by cases a; cases b; grind)),Z.xt⟩
 exact .r 1<|.d<|.cf<|.sk<|.s<|.g<|.r 1<|.d<|T.rt func27 results27 (.bool true) ⟨(AG (by cases a; cases b; grind)),Z.xt⟩
theorem ND (a:Fil) (b:Fil) (h1:RepS w F a1 n1 c1 a.part.ids) (h2:RepS w F a2 n2 c2 a.part.blocks) (h3:RepS w F a3 n3 c3 b.part.ids) (h4:RepS w F a4 n4 c4 b.part.blocks)  : Calls Tryz.prog 139 [.agg #[.int .i64 a.num,.slice a1 n1 c1,.slice a2 n2 c2],.agg #[.int .i64 b.num,.slice a3 n3 c3,.slice a4 n4 c4]].toArray w (Af fun rv w'=>rv=.bool ((a==b))∧Ext w w'):=by
 cases h1.len
 cases h2.len
 cases h3.len
 cases h4.len
 refine goT func139 ?_
 have Z:=((((St.i0 F w).p h1).p h2).p h3).p h4
 have ab:=h1.max
 have ac:=h2.max
 have ae:=h3.max
 have af:=h4.max
 refine .s<|.g<|RG.Np Z fun ah w Z=>RG.Np Z fun ai w Z=>.r 1<|.d<|.s<|.s<|.g<|.r 1<|RG.Lb 1 Z<|.r 1<|RG.Lb 0 Z<|.ne a.num b.num (fun aa=>.d<|.ct<|.s<|.g<|.r 1<|.d<|T.rt func139 results139 (.bool false) ⟨(AG (by cases a; cases b; grind)),Z.xt⟩) fun aa=>.d<|.cf<|.sk<|.s<|.s<|.g<|.r 1<|RG.Ln 1 Z<|.r 1<|RG.Ln 0 Z<|RG.C0 (IU a.part b.part (Z.a 3) (Z.a 2) (Z.a 1) (Z.a 0)) Z fun w Z=>?_
 cases ag:(a.part==b.part)
 ·exact .r 1<|.d<|.ct<|.s<|.g<|.r 1<|.d<|T.rt func139 results139 (.bool false) ⟨(AG (by cases a; cases b; grind)),Z.xt⟩
 exact .r 1<|.d<|.cf<|.sk<|.s<|.g<|.r 1<|.d<|T.rt func139 results139 (.bool true) ⟨(AG (by cases a; cases b; grind)),Z.xt⟩
theorem MY (a:List Fil) (b:List Fil) (h1:RepS w F a1 n1 c1 a) (h2:RepS w F a2 n2 c2 b)  : Calls Tryz.prog 70 [.slice a1 n1 c1,.slice a2 n2 c2].toArray w (Af fun rv w'=>rv=.bool ((a==b))∧Ext w w'):=by
 cases h1.len
 cases h2.len
 refine goT func70 ?_
 have Z:=((St.i0 F w).p h1).p h2
 have ak:=h1.max
 refine .s<|.g<|.r 1<|.d<|.s<|.s<|.g<|.r 4<|.ne (a.length:Int) (b.length:Int) (fun ae=>.d<|.ct<|.s<|.g<|.r 1<|.d<|T.rt func70 results70 (.bool false) ⟨(AG (by grind [Aa])),Z.xt⟩) fun ae=>.d<|.cf<|.sk<|.s<|.s<|.g<|.r 1<|.d<|.b 0<|T.Lp (0:Nat) (fun i=>([(0,.slice a1 a.length c1),(1,.slice a2 b.length c2),(5,vI (i:Int))],[],[],a.length - i,(i≤a.length)∧(a.drop i=b.drop i↔a=b))) [] Z ⟨AD,AD⟩ ?_
 rintro i az w Z ⟨ao,aq⟩ ac
 refine .s<|.s<|.g<|.r 3<|.bp ((i:Int)< (a.length:Int)) (fun af=>?_) (fun af=>.d<|.cf<|.x 0 rfl<|.s<|.g<|.r 1<|.d<|T.rt func70 results70 (.bool true) ⟨(AG (by grind [Aa])),Z.xt⟩)
 refine .d<|.ct<|.sk<|.s<|.b 1<|.s<|T.Gd 8 Z fun w Z=>.r [0,1]<|gx a i fun ag aa=>?_
 have ar:=Ab aa
 refine GA.Ix 2 1 aa Z<|Z.el 1 aa fun aA aB aC aD Z=>GA.Lg 3 0 0 Z<|.r [4,5]<|gx b i fun ah ab=>?_
 have ax:=Ab ab
 refine GA.Ix 6 3 ab Z<|Z.el 3 ab fun aE aF aG aH Z=>GA.Lg 7 0 0 Z<|GA.Dn Z fun w Z=>RG.C0 (ND ag ah (Z.a 4) (Z.a 5) (Z.a 1) (Z.a 2)) Z fun w Z=>?_
 cases ay:(ag==ah)
 ·exact .r 1<|.d<|.ct<|.s<|.g<|.r 1<|.d<|T.rt func70 results70 (.bool false) ⟨(AG (by grind [Aa])),Z.xt⟩
 exact .r 1<|.d<|.cf<|.sk<|.ib 1<|.g<|.r 1<|.it ((i:Int)+1)<|.r 1<|.d<|ac (i+1) _ _ AA (Z.to 0 [] 6) ⟨AB,(by grind)⟩ (by (simp only []; omega))
theorem NE (a:Dsk) (b:Dsk) (h1:RepS w F a1 n1 c1 a.files) (h2:RepS w F a2 n2 c2 a.list) (h3:RepS w F a3 n3 c3 a.names) (h4:RepS w F a4 n4 c4 b.files) (h5:RepS w F a5 n5 c5 b.list) (h6:RepS w F a6 n6 c6 b.names)  : Calls Tryz.prog 28 [.agg #[.slice a1 n1 c1,.slice a2 n2 c2,.slice a3 n3 c3,.int .i64 a.next],.agg #[.slice a4 n4 c4,.slice a5 n5 c5,.slice a6 n6 c6,.int .i64 b.next]].toArray w (Af fun rv w'=>rv=.bool ((a==b))∧Ext w w'):=by
 cases h1.len
 cases h2.len
 cases h3.len
 cases h4.len
 cases h5.len
 cases h6.len
 refine goT func28 ?_
 have Z:=((((((St.i0 F w).p h1).p h2).p h3).p h4).p h5).p h6
 have ab:=h1.max
 have ac:=h2.max
 have ae:=h3.max
 have af:=h4.max
 have ag:=h5.max
 have ah:=h6.max
 refine .s<|.g<|RG.Np Z fun am w Z=>RG.Np Z fun ao w Z=>.r 1<|.d<|.s<|.s<|.g<|.r 1<|RG.Lb 1 Z<|.r 1<|RG.Lb 0 Z<|RG.C0 (MY a.files b.files (Z.a 5) (Z.a 2)) Z fun w Z=>?_
 cases ai:(a.files==b.files)
 ·exact .r 1<|.d<|.ct<|.s<|.g<|.r 1<|.d<|T.rt func28 results28 (.bool false) ⟨(AG (by cases a; cases b; grind)),Z.xt⟩
 refine .r 1<|.d<|.cf<|.sk<|.s<|.s<|.g<|.r 1<|RG.Lb 1 Z<|.r 1<|RG.Lb 0 Z<|RG.C0 (Fy a.list b.list (Z.a 4) (Z.a 1)) Z fun w Z=>?_
 cases aj:(a.list==b.list)
 ·exact .r 1<|.d<|.ct<|.s<|.g<|.r 1<|.d<|T.rt func28 results28 (.bool false) ⟨(AG (by cases a; cases b; grind)),Z.xt⟩
 refine .r 1<|.d<|.cf<|.sk<|.s<|.s<|.g<|.r 1<|RG.Lb 1 Z<|.r 1<|RG.Lb 0 Z<|RG.C0 (Hg a.names b.names (Z.a 3) (Z.a 0)) Z fun w Z=>?_
 cases ak:(a.names==b.names)
 ·exact .r 1<|.d<|.ct<|.s<|.g<|.r 1<|.d<|T.rt func28 results28 (.bool false) ⟨(AG (by cases a; cases b; grind)),Z.xt⟩
 exact .r 1<|.d<|.cf<|.sk<|.s<|.s<|.g<|.r 1<|RG.Lb 1 Z<|.r 1<|RG.Lb 0 Z<|.ne a.next b.next (fun aa=>.d<|.ct<|.s<|.g<|.r 1<|.d<|T.rt func28 results28 (.bool false) ⟨(AG (by cases a; cases b; grind)),Z.xt⟩) fun aa=>.d<|.cf<|.sk<|.s<|.g<|.r 1<|.d<|T.rt func28 results28 (.bool true) ⟨(AG (by cases a; cases b; grind)),Z.xt⟩
theorem MZ (a:Wld) (b:Wld) (h1:RepS w F a1 n1 c1 a.store.idx.names) (h2:RepS w F a2 n2 c2 a.store.idx.AX) (h3:RepS w F a3 n3 c3 a.store.parts) (h4:RepS w F a4 n4 c4 a.store.mem) (h5:RepS w F a5 n5 c5 a.disk.files) (h6:RepS w F a6 n6 c6 a.disk.list) (h7:RepS w F a7 n7 c7 a.disk.names) (h8:RepS w F a8 n8 c8 b.store.idx.names) (h9:RepS w F a9 n9 c9 b.store.idx.AX) (h10:RepS w F a10 n10 c10 b.store.parts) (h11:RepS w F a11 n11 c11 b.store.mem) (h12:RepS w F a12 n12 c12 b.disk.files) (h13:RepS w F a13 n13 c13 b.disk.list) (h14:RepS w F a14 n14 c14 b.disk.names)  : Calls Tryz.prog 9 [.agg #[.slice a1 n1 c1,.slice a2 n2 c2,.slice a3 n3 c3,.slice a4 n4 c4,.slice a5 n5 c5,.slice a6 n6 c6,.slice a7 n7 c7,.int .i64 a.disk.next],.agg #[.slice a8 n8 c8,.slice a9 n9 c9,.slice a10 n10 c10,.slice a11 n11 c11,.slice a12 n12 c12,.slice a13 n13 c13,.slice a14 n14 c14,.int .i64 b.disk.next]].toArray w (Af fun rv w'=>rv=.bool ((a==b))∧Ext w w'):=by
 cases h1.len
 cases h2.len
 cases h3.len
 cases h4.len
 cases h5.len
 cases h6.len
 cases h7.len
 cases h8.len
 cases h9.len
 cases h10.len
 cases h11.len
 cases h12.len
 cases h13.len
 cases h14.len
 refine goT func9 ?_
 have Z:=((((((((((((((St.i0 F w).p h1).p h2).p h3).p h4).p h5).p h6).p h7).p h8).p h9).p h10).p h11).p h12).p h13).p h14
 have aa:=h1.max
 have ab:=h2.max
 have ac:=h3.max
 have ae:=h4.max
 have af:=h5.max
 have ag:=h6.max
 have ah:=h7.max
 have ai:=h8.max
 have aj:=h9.max
 have ak:=h10.max
 have am:=h11.max
 have ao:=h12.max
 have aq:=h13.max
 have ar:=h14.max
 refine .s<|.g<|RG.Np Z fun az w Z=>RG.Np Z fun aA w Z=>.r 1<|.d<|.s<|.s<|.g<|.r 1<|RG.Ln 1 Z<|.r 1<|RG.Ln 0 Z<|RG.C0 (MX a.store b.store (Z.a 13) (Z.a 12) (Z.a 11) (Z.a 10) (Z.a 6) (Z.a 5) (Z.a 4) (Z.a 3)) Z fun w Z=>?_
 cases ax:(a.store==b.store)
 ·exact .r 1<|.d<|.ct<|.s<|.g<|.r 1<|.d<|T.rt func9 results9 (.bool false) ⟨(AG (by cases a; cases b; grind)),Z.xt⟩
 refine .r 1<|.d<|.cf<|.sk<|.s<|.s<|.g<|.r 1<|RG.Ln 1 Z<|.r 1<|RG.Ln 0 Z<|RG.C0 (NE a.disk b.disk (Z.a 9) (Z.a 8) (Z.a 7) (Z.a 2) (Z.a 1) (Z.a 0)) Z fun w Z=>?_
 cases ay:(a.disk==b.disk)
 ·exact .r 1<|.d<|.ct<|.s<|.g<|.r 1<|.d<|T.rt func9 results9 (.bool false) ⟨(AG (by cases a; cases b; grind)),Z.xt⟩
 exact .r 1<|.d<|.cf<|.sk<|.s<|.g<|.r 1<|.d<|T.rt func9 results9 (.bool true) ⟨(AG (by cases a; cases b; grind)),Z.xt⟩
theorem Ma (a:Evt) (b:Evt) (h1:RepS w F a1 n1 c1 a.name) (h2:RepS w F a2 n2 c2 b.name)  : Calls Tryz.prog 20 [.agg #[.int .i64 a.kind,.int .i64 a.at_,.int .i64 a.cut,.slice a1 n1 c1,.int .i64 a.row.t,.int .i64 a.row.v],.agg #[.int .i64 b.kind,.int .i64 b.at_,.int .i64 b.cut,.slice a2 n2 c2,.int .i64 b.row.t,.int .i64 b.row.v]].toArray w (Af fun rv w'=>rv=.bool ((a==b))∧Ext w w'):=by
 cases h1.len
 cases h2.len
 refine goT func20 ?_
 have Z:=((St.i0 F w).p h1).p h2
 have ae:=h1.max
 have af:=h2.max
 refine .s<|.g<|RG.Np Z fun ai w Z=>RG.Np Z fun aj w Z=>.r 1<|.d<|.s<|.s<|.g<|.r 1<|RG.Lb 1 Z<|.r 1<|RG.Lb 0 Z<|.ne a.kind b.kind (fun aa=>.d<|.ct<|.s<|.g<|.r 1<|.d<|T.rt func20 results20 (.bool false) ⟨(AG (by cases a; cases b; grind)),Z.xt⟩) fun aa=>.d<|.cf<|.sk<|.s<|.s<|.g<|.r 1<|RG.Lb 1 Z<|.r 1<|RG.Lb 0 Z<|.ne a.at_ b.at_ (fun ab=>.d<|.ct<|.s<|.g<|.r 1<|.d<|T.rt func20 results20 (.bool false) ⟨(AG (by cases a; cases b; grind)),Z.xt⟩) fun ab=>.d<|.cf<|.sk<|.s<|.s<|.g<|.r 1<|RG.Lb 1 Z<|.r 1<|RG.Lb 0 Z<|.ne a.cut b.cut (fun ac=>.d<|.ct<|.s<|.g<|.r 1<|.d<|T.rt func20 results20 (.bool false) ⟨(AG (by cases a; cases b; grind)),Z.xt⟩) fun ac=>.d<|.cf<|.sk<|.s<|.s<|.g<|.r 1<|RG.Lb 1 Z<|.r 1<|RG.Lb 0 Z<|RG.C0 (IT a.name b.name (Z.a 1) (Z.a 0)) Z fun w Z=>?_
 cases ag:(a.name==b.name)
 ·exact .r 1<|.d<|.ct<|.s<|.g<|.r 1<|.d<|T.rt func20 results20 (.bool false) ⟨(AG (by cases a; cases b; grind)),Z.xt⟩
 refine .r 1<|.d<|.cf<|.sk<|.s<|.s<|.g<|.r 1<|RG.Ln 1 Z<|.r 1<|RG.Ln 0 Z<|RG.C0 (Gh a.row b.row (F:=all)) Z fun w Z=>?_
 cases ah:(a.row==b.row)
 ·exact .r 1<|.d<|.ct<|.s<|.g<|.r 1<|.d<|T.rt func20 results20 (.bool false) ⟨(AG (by cases a; cases b; grind)),Z.xt⟩
 exact .r 1<|.d<|.cf<|.sk<|.s<|.g<|.r 1<|.d<|T.rt func20 results20 (.bool true) ⟨(AG (by cases a; cases b; grind)),Z.xt⟩
end Go.Proofs.YtcginoabkicdiaaGreat
