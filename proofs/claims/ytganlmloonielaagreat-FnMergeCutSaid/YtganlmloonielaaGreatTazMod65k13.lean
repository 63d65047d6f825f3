/- The laws on drawn disks: plain laws. -/
import Derived.Test.YtganlmloonielaaGreatTazMod42k14
import Derived.Test.YtganlmloonielaaGreatTazMod58k20
import Derived.Test.YtganlmloonielaaGreatTazMod55k15
import Derived.Test.YtganlmloonielaaGreatTazW63k16
set_option linter.unusedVariables false
set_option linter.unusedSimpArgs false
namespace Go.Proofs.YtganlmloonielaaGreat
section
variable {d:Dsk} {i:Int}
theorem SF (h:¬ ((AT d i).length:Int)=0):Af d=true:=by
 cases hk:Af d with
 | true=>rfl
 | false=>rw [IL hk] at h; exact absurd rfl h
theorem Al (hd:DD d) (h:¬ ((AT d i).length:Int)=0):((AT d i).length:Int)=4:=by
 obtain ⟨x,y,q,e,_⟩:=MgD.of hd h
 rw [e,q.e]
 rfl
end
end Go.Proofs.YtganlmloonielaaGreat
namespace Go.Proofs.YtganlmloonielaaGreat
set_option maxRecDepth 100000
set_option maxHeartbeats 4000000
theorem EG (code:List UInt8) {w:World} {F:Nat→Prop} {a1:Option Addr} {n1 c1:Nat} (h1:RepS w F a1 n1 c1 code)  : Calls Tryz.prog 28 [.slice a1 n1 c1].toArray w (As fun rv w'=>(∃ (d:Dsk) (y:Int),(∃ v0,rv=.tuple #[v0,.int .i64 (y)]∧VS (fo F w.heap.size) w' (d:Dsk) v0)∧(DD d∧(-50≤y∧y≤10)))∧Ext w w'):=by
 refine goT Tryz.func28 ?_
 obtain ⟨rfl,dJ,h1⟩:=h1.tp
 refine .s<|.g<|.np 27 [.slice none 0 0,.slice none 0 0,.slice none 0 0,vI 0] fun ae cB bh bi aa cC=>?_
 have dK:Cov nil w ae:=Bc bh (Nat.le_refl _)
 replace h1:=(sn [] bi bh).g1 h1
 have E:=bi
 refine .r 1<|.d<|.s<|.g<|.r 1<|.cl (DX code h1 (w:=cB) (F:=nin (fo F w.heap.size) [ae])) ?_
 rintro eQ cD ⟨⟨cV,ac,cW,cX,rfl,bj,bO,C⟩,bP⟩
 have bQ:=al1 aa.lt
 have cE:Gb w.heap.size cB.heap.size:=E.size
 have dL:=Ab bj aa.lt
 have dM:Cov nil w ac:=BR bj E.size
 replace ⟨aa,E⟩:=(se [] bP).g2 aa E
 replace C:=RepS.KC (b:=ac) (M:=[ae]) C bQ cE
 refine .r 1<|.d<|.s<|.g<|.r 1<|.cl (EC bO (C.BB AD) AB (w:=cD) (F:=all)) ?_
 rintro eR eS ⟨⟨ar,⟨_,rfl,⟨cF,eT,cG,cH,eU,cI,cJ,eV,cK,rfl,au,av,aw⟩⟩,dN⟩,cY,dO,aB,bR⟩
 have bg:=al2 bO.lt aa.lt
 have bk:Gb w.heap.size cD.heap.size:=E.size
 replace ⟨aa,C,E⟩:=(so [ac,ae] bR).g3 aa C E
 have au:=au.fr bg bk
 replace au:=au.base (G':=fo F w.heap.size) (fun _ _ h=>.inr h)
 have dP:=au.max
 have av:=av.fr bg bk
 replace av:=av.base (G':=fo F w.heap.size) (fun _ _ h=>.inr h)
 have dQ:=av.max
 have aw:=aw.fr bg bk
 replace aw:=aw.base (G':=fo F w.heap.size) (fun _ _ h=>.inr h)
 have dR:=aw.max
 have cL:=au.len
 subst cL
 have cM:=av.len
 subst cM
 have cN:=aw.len
 subst cN
 refine .np 27 [.slice none 0 0,.slice none 0 0,.slice none 0 0,vI 0] fun af eW aO bS cO cP=>?_
 have aC:=AS aO aa.lt
 have aD:=AS aO aB.lt
 have dS:=E.cn aO
 replace ⟨aa,C,aB,au,av,aw,E⟩:=(sn [ac,ae] bS aO).g7 aa C aB au av aw E
 refine .sc [.slice cF ar.files.length cG,.slice cH ar.list.length cI,.slice cJ ar.names.length cK,vI ar.next] cO fun bN bT cQ cR=>?_
 replace ⟨aa,C,aB,au,av,aw,E⟩:=(so [af,ac,ae] bT).g7 aa C aB au av aw E
 refine .d<|.s<|.s<|.g<|.r 1<|.d<|.b 0<|T.loop (X:=Nat × Nat × (List Fil) × (Option Addr) × Nat × Nat × (List Int) × (Option Addr) × Nat × Nat × (List (List Tag)) × (Option Addr) × Nat × Nat × Int) (0,cY,(ar.files:List Fil),cF,ar.files.length,cG,(ar.list:List Int),cH,ar.list.length,cI,(ar.names:List (List Tag)),cJ,ar.names.length,cK,ar.next) (fun (i,p_,ax,a_d_0,n_d_0,c_d_0,ay,a_d_1,n_d_1,c_d_1,az,a_d_2,n_d_2,c_d_2,ah)=>[(2,.pointer (some ⟨ae,0,none⟩)),(4,.pointer (some ⟨ac,0,none⟩)),(5,.pointer (some ⟨af,0,none⟩)),(6,vI (i:Int))]) (fun (i,p_,ax,a_d_0,n_d_0,c_d_0,ay,a_d_1,n_d_1,c_d_1,az,a_d_2,n_d_2,c_d_2,ah) ag=>Chg (ins [ac,af]) bN ag∧RepS ag (nin (fo F w.heap.size) [af,ac,ae]) a_d_0 n_d_0 c_d_0 ax∧RepS ag (nin (fo F w.heap.size) [af,ac,ae]) a_d_1 n_d_1 c_d_1 ay∧RepS ag (nin (fo F w.heap.size) [af,ac,ae]) a_d_2 n_d_2 c_d_2 az∧Box ag ac 122 [.slice cW cV.length cX,vI (p_:Int)]∧Box ag af 27 [.slice a_d_0 n_d_0 c_d_0,.slice a_d_1 n_d_1 c_d_1,.slice a_d_2 n_d_2 c_d_2,vI ah]∧(i≤4)∧(p_≤3300+3300 * i)∧(DD ⟨ax,ay,az,ah⟩)) (fun (i,p_,ax,a_d_0,n_d_0,c_d_0,ay,a_d_1,n_d_1,c_d_1,az,a_d_2,n_d_2,c_d_2,ah)=>4 - i) AA ⟨AA,AA,AA,AA,trivial⟩ ⟨Chg.refl _ _,au,av,aw,aB,cQ,AB,AB,‹_›⟩ ?_
 rintro ⟨i,p_,ax,a_d_0,n_d_0,c_d_0,ay,a_d_1,n_d_1,c_d_1,az,a_d_2,n_d_2,c_d_2,ah⟩ eX ag ⟨aj,J,O,W,ak,ab,dT,dU,dV⟩ bm
 have dW:Cov (ins [ac,af]) bN ac:=⟨.inl AD⟩
 have dX:Cov (ins [ac,af]) bN af:=⟨.inl AE⟩
 have bn:Mv [af,ac,ae] [af,ac,ae] bN ag:=Mv.inl aj (all_cons AE (all_cons AD all_nil)) (all_cons (.inl AD) (all_cons (.inl AE) (all_cons (.inl AF) all_nil)))
 replace ⟨aa,C,E⟩:=(sp bn aj).g3 aa C E
 have cZ:=J.len; have c7:=J.max
 have c8:=O.len; have c9:=O.max
 have da:=W.len; have db:=W.max
 refine .s<|.s<|.g<|.r 1<|.bp ((i:Int)< 4) (fun ce=>?_) (fun ce=>?_)
 ·refine .r 2<|.lb ab<|.r 1<|.bp ((n_d_1:Int)< 2) (fun cg=>?_) (fun cg=>?_)
  ·refine .r 3<|.cl (AZ 8 ak (C.BB AE) AB (w:=ag) (F:=all)) ?_
   rintro dY aq ⟨⟨cS,rfl,de⟩,dZ,df,aA,bo⟩
   replace ⟨aa,C,ab,J,O,W,E,aj⟩:=(so [af,ac,ae] bo).g8 aa C ab J O W E aj
   refine .bp (cS > 0) (fun ci=>?_) (fun ci=>?_)
   ·refine .r 1<|.d<|.ct<|.sk<|.s<|.b 1<|.g<|.r 1<|.cl (EC aA (C.BB AE) AB (w:=aq) (F:=all)) ?_
    rintro d0 d3 ⟨⟨ai,⟨_,rfl,⟨bU,d4,bV,bW,d5,bX,bY,d6,bZ,rfl,al,am,ao⟩⟩,dg⟩,cT,dh,aP,bq⟩
    have aH:=al3 ab.lt aA.lt aa.lt
    have aQ:Gb w.heap.size aq.heap.size:=E.size
    replace ⟨aa,C,ab,J,O,W,E,aj⟩:=(so [af,ac,ae] bq).g8 aa C ab J O W E aj
    have al:=al.fr aH aQ
    replace al:=al.base (G':=fo F w.heap.size) (fun _ _ h=>.inr h)
    have dj:=al.max
    have am:=am.fr aH aQ
    replace am:=am.base (G':=fo F w.heap.size) (fun _ _ h=>.inr h)
    have dm:=am.max
    have ao:=ao.fr aH aQ
    replace ao:=ao.base (G':=fo F w.heap.size) (fun _ _ h=>.inr h)
    have dp:=ao.max
    have cj:=al.len
    subst cj
    have ck:=am.len
    subst ck
    have cm:=ao.len
    subst cm
    refine .sc [.slice bU ai.files.length bV,.slice bW ai.list.length bX,.slice bY ai.names.length bZ,vI ai.next] ab fun d7 br co cp=>?_
    replace ⟨aa,C,aP,J,O,W,al,am,ao,E,aj⟩:=(so [af,ac,ae] br).g11 aa C aP J O W al am ao E aj
    exact .d<|.ib 1<|.g<|.r 1<|.it ((i:Int)+1)<|.r 1<|.d<|bm (i+1,cT,ai.files,bU,ai.files.length,bV,ai.list,bW,ai.list.length,bX,ai.names,bY,ai.names.length,bZ,ai.next) _ _ ⟨AA,AA,AA,AA,trivial⟩ ⟨aj,al,am,ao,aP,co,AB,AB,‹_›⟩ (by (simp only []; omega))
   refine .r 1<|.d<|.cf<|.x 0 rfl<|.s ?_
   replace C:=C.Ah
   replace J:=J.Ah
   replace O:=O.Ah
   replace W:=W.Ah
   have cq:Cov (mtb [ae,ac] aq.heap.size) aq ae:=⟨.inl (.inl AD)⟩
   have bt:Cov (mtb [ae,ac] aq.heap.size) aq ac:=⟨.inl (.inl AE)⟩
   have bu:Gb (af+1) aq.heap.size:=ab.lt
   refine .gd (mtb [ae,ac] aq.heap.size) 13 fun d8 bv=>?_
   replace ⟨aa,C,aA,ab,J,O,W,E⟩:=(se [af,ac,ae] bv).g8 aa C aA ab J O W E
   refine .ln 0 ab (Ax (all_cons aC (all_cons aD all_nil)) bu)<|.r [1,2]<|.lb 3 ab (Ax (all_cons aC (all_cons aD all_nil)) bu)<|.r [4,5,7]<|.go 6<|.cl (fun b0 aI=>AZ (if 1 > (n_d_1:Int) then 1 else (n_d_1:Int)) (aA.ext aI) ((C.BB AE).ext aI) AB (w:=b0) (F:=all)) ?_
   intro b0 aI
   replace ⟨aa,C,ab,J,O,W,E⟩:=(se [af,ac,ae] aI).g7 aa C ab J O W E
   rintro d9 ec ⟨⟨bw,rfl,dq⟩,ed,dr,cr,aR⟩
   have hkeep_:=aR
   replace ⟨aa,C,ab,J,O,W,E⟩:=(so [af,ac,ae] aR).g7 aa C ab J O W E
   refine ⟨Chg.toS hkeep_ (Cov.toS bt),?_⟩
   refine .go 8<|.cl (fun b6 aJ=>AZ 24 (cr.ext aJ) ((C.BB AE).ext aJ) AB (w:=b6) (F:=all)) ?_
   intro b6 aJ
   replace ⟨aa,C,ab,J,O,W,E⟩:=(se [af,ac,ae] aJ).g7 aa C ab J O W E
   rintro ee ef ⟨⟨aE,rfl,dt⟩,eg,du,dv,aS⟩
   have hkeep_:=aS
   replace ⟨aa,C,ab,J,O,W,E⟩:=(so [af,ac,ae] aS).g7 aa C ab J O W E
   refine ⟨Chg.toS hkeep_ (Cov.toS bt),?_⟩
   have dw:=FH (a:=aE) (n:=23) AB AB
   refine GA.quo (i:=9) (t:=3) (a:=aE) (b:=23) AA AA AB AB<|GA.int (i:=10) ((Int.tdiv aE 23) * 2) AA AB<|GA.int (i:=11) (bw - ((Int.tdiv aE 23) * 2)) AA AB<|.go 12<|GE.CK (t':=27) (o:=0) (v:=.agg #[.slice a_d_0 n_d_0 c_d_0,.slice a_d_1 n_d_1 c_d_1,.slice a_d_2 n_d_2 c_d_2,vI ah]) [.slice a_d_0 n_d_0 c_d_0,.slice a_d_1 n_d_1 c_d_1,.slice a_d_2 n_d_2 c_d_2,vI ah] aa AA AA AA fun eh bz=>?_
   replace ⟨aa,C,ab,J,O,W,E⟩:=(se [af,ac,ae] bz).g7 aa C ab J O W E
   intro ej aT aU cu
   have hkeep_:=Chg.toS aT (Cov.toS cq)
   replace ⟨C,ab,J,O,W,E⟩:=(so [af,ac,ae] aT).g6 C ab J O W E
   refine ⟨hkeep_,?_⟩
   refine .d fun ek bA=>?_
   replace ⟨aU,C,ab,J,O,W,E⟩:=(se [af,ac,ae] bA).g7 aU C ab J O W E
   replace C:=C.AU
   replace J:=J.AU
   replace O:=O.AU
   replace W:=W.AU
   exact .r 1<|.d<|.r2 Tryz.func28 Tryz.results28 (.bx aU) (.t (vI (bw - ((Int.tdiv aE 23) * 2)))) ⟨⟨((⟨ax,ay,az,ah⟩:Dsk):Dsk),(bw - ((Int.tdiv aE 23) * 2):Int),⟨_,(CS rfl (congrArg (Value.int .i64) (by rfl))),⟨_,rfl,⟨_,_,_,_,_,_,_,_,_,rfl,J.w1,O.w1,W.w1⟩⟩⟩,(by (refine ⟨by assumption,?_⟩; have q1:=DD.nl (by assumption:DD ⟨ax,ay,az,ah⟩); simp only at q1; omega))⟩,E⟩
  refine .r 6<|.d<|.cf<|.x 0 rfl<|.s ?_
  replace C:=C.Ah
  replace J:=J.Ah
  replace O:=O.Ah
  replace W:=W.Ah
  have cv:Cov (mtb [ae,ac] ag.heap.size) ag ae:=⟨.inl (.inl AD)⟩
  have bB:Cov (mtb [ae,ac] ag.heap.size) ag ac:=⟨.inl (.inl AE)⟩
  have bC:Gb (af+1) ag.heap.size:=ab.lt
  refine .gd (mtb [ae,ac] ag.heap.size) 13 fun en bD=>?_
  replace ⟨aa,C,ak,ab,J,O,W,E⟩:=(se [af,ac,ae] bD).g8 aa C ak ab J O W E
  refine .ln 0 ab (Ax (all_cons aC (all_cons aD all_nil)) bC)<|.r [1,2]<|.lb 3 ab (Ax (all_cons aC (all_cons aD all_nil)) bC)<|.r [4,5,7]<|.go 6<|.cl (fun b7 aK=>AZ (if 1 > (n_d_1:Int) then 1 else (n_d_1:Int)) (ak.ext aK) ((C.BB AE).ext aK) AB (w:=b7) (F:=all)) ?_
  intro b7 aK
  replace ⟨aa,C,ak,ab,J,O,W,E⟩:=(se [af,ac,ae] aK).g8 aa C ak ab J O W E
  rintro et ey ⟨⟨bE,rfl,dx⟩,ez,dy,cw,aV⟩
  have hkeep_:=aV
  replace ⟨aa,C,ab,J,O,W,E⟩:=(so [af,ac,ae] aV).g7 aa C ab J O W E
  refine ⟨Chg.toS hkeep_ (Cov.toS bB),?_⟩
  refine .go 8<|.cl (fun b8 aL=>AZ 24 (cw.ext aL) ((C.BB AE).ext aL) AB (w:=b8) (F:=all)) ?_
  intro b8 aL
  replace ⟨aa,C,ab,J,O,W,E⟩:=(se [af,ac,ae] aL).g7 aa C ab J O W E
  rintro eA eB ⟨⟨aF,rfl,dz⟩,eC,dA,dB,aW⟩
  have hkeep_:=aW
  replace ⟨aa,C,ab,J,O,W,E⟩:=(so [af,ac,ae] aW).g7 aa C ab J O W E
  refine ⟨Chg.toS hkeep_ (Cov.toS bB),?_⟩
  have dC:=FH (a:=aF) (n:=23) AB AB
  refine GA.quo (i:=9) (t:=3) (a:=aF) (b:=23) AA AA AB AB<|GA.int (i:=10) ((Int.tdiv aF 23) * 2) AA AB<|GA.int (i:=11) (bE - ((Int.tdiv aF 23) * 2)) AA AB<|.go 12<|GE.CK (t':=27) (o:=0) (v:=.agg #[.slice a_d_0 n_d_0 c_d_0,.slice a_d_1 n_d_1 c_d_1,.slice a_d_2 n_d_2 c_d_2,vI ah]) [.slice a_d_0 n_d_0 c_d_0,.slice a_d_1 n_d_1 c_d_1,.slice a_d_2 n_d_2 c_d_2,vI ah] aa AA AA AA fun eD bF=>?_
  replace ⟨aa,C,ab,J,O,W,E⟩:=(se [af,ac,ae] bF).g7 aa C ab J O W E
  intro eE aX aY cx
  have hkeep_:=Chg.toS aX (Cov.toS cv)
  replace ⟨C,ab,J,O,W,E⟩:=(so [af,ac,ae] aX).g6 C ab J O W E
  refine ⟨hkeep_,?_⟩
  refine .d fun eF bG=>?_
  replace ⟨aY,C,ab,J,O,W,E⟩:=(se [af,ac,ae] bG).g7 aY C ab J O W E
  replace C:=C.AU
  replace J:=J.AU
  replace O:=O.AU
  replace W:=W.AU
  exact .r 1<|.d<|.r2 Tryz.func28 Tryz.results28 (.bx aY) (.t (vI (bE - ((Int.tdiv aF 23) * 2)))) ⟨⟨((⟨ax,ay,az,ah⟩:Dsk):Dsk),(bE - ((Int.tdiv aF 23) * 2):Int),⟨_,(CS rfl (congrArg (Value.int .i64) (by rfl))),⟨_,rfl,⟨_,_,_,_,_,_,_,_,_,rfl,J.w1,O.w1,W.w1⟩⟩⟩,(by (refine ⟨by assumption,?_⟩; have q1:=DD.nl (by assumption:DD ⟨ax,ay,az,ah⟩); simp only at q1; omega))⟩,E⟩
 refine .r 11<|.d<|.cf<|.x 0 rfl<|.s ?_
 replace C:=C.Ah
 replace J:=J.Ah
 replace O:=O.Ah
 replace W:=W.Ah
 have cy:Cov (mtb [ae,ac] ag.heap.size) ag ae:=⟨.inl (.inl AD)⟩
 have bH:Cov (mtb [ae,ac] ag.heap.size) ag ac:=⟨.inl (.inl AE)⟩
 have bI:Gb (af+1) ag.heap.size:=ab.lt
 refine .gd (mtb [ae,ac] ag.heap.size) 13 fun eG bJ=>?_
 replace ⟨aa,C,ak,ab,J,O,W,E⟩:=(se [af,ac,ae] bJ).g8 aa C ak ab J O W E
 refine .ln 0 ab (Ax (all_cons aC (all_cons aD all_nil)) bI)<|.r [1,2]<|.lb 3 ab (Ax (all_cons aC (all_cons aD all_nil)) bI)<|.r [4,5,7]<|.go 6<|.cl (fun b9 aM=>AZ (if 1 > (n_d_1:Int) then 1 else (n_d_1:Int)) (ak.ext aM) ((C.BB AE).ext aM) AB (w:=b9) (F:=all)) ?_
 intro b9 aM
 replace ⟨aa,C,J,O,W,E⟩:=(se [af,ac,ae] aM).g6 aa C J O W E
 rintro eH eI ⟨⟨bK,rfl,dD⟩,eJ,dE,cz,aZ⟩
 have hkeep_:=aZ
 replace ⟨aa,C,J,O,W,E⟩:=(so [af,ac,ae] aZ).g6 aa C J O W E
 refine ⟨Chg.toS hkeep_ (Cov.toS bH),?_⟩
 refine .go 8<|.cl (fun cd aN=>AZ 24 (cz.ext aN) ((C.BB AE).ext aN) AB (w:=cd) (F:=all)) ?_
 intro cd aN
 replace ⟨aa,J,O,W,E⟩:=(se [af,ac,ae] aN).g5 aa J O W E
 rintro eK eL ⟨⟨aG,rfl,dF⟩,eM,dG,dH,ba⟩
 have hkeep_:=ba
 replace ⟨aa,J,O,W,E⟩:=(so [af,ac,ae] ba).g5 aa J O W E
 refine ⟨Chg.toS hkeep_ (Cov.toS bH),?_⟩
 have dI:=FH (a:=aG) (n:=23) AB AB
 refine GA.quo (i:=9) (t:=3) (a:=aG) (b:=23) AA AA AB AB<|GA.int (i:=10) ((Int.tdiv aG 23) * 2) AA AB<|GA.int (i:=11) (bK - ((Int.tdiv aG 23) * 2)) AA AB<|.go 12<|GE.CK (t':=27) (o:=0) (v:=.agg #[.slice a_d_0 n_d_0 c_d_0,.slice a_d_1 n_d_1 c_d_1,.slice a_d_2 n_d_2 c_d_2,vI ah]) [.slice a_d_0 n_d_0 c_d_0,.slice a_d_1 n_d_1 c_d_1,.slice a_d_2 n_d_2 c_d_2,vI ah] aa AA AA AA fun eN bL=>?_
 replace ⟨J,O,W,E⟩:=(se [af,ac,ae] bL).g4 J O W E
 intro eO bc bd cA
 have hkeep_:=Chg.toS bc (Cov.toS cy)
 replace ⟨J,O,W,E⟩:=(so [af,ac,ae] bc).g4 J O W E
 refine ⟨hkeep_,?_⟩
 refine .d fun eP bM=>?_
 replace ⟨bd,J,O,W,E⟩:=(se [af,ac,ae] bM).g5 bd J O W E
 replace J:=J.AU
 replace O:=O.AU
 replace W:=W.AU
 exact .r 1<|.d<|.r2 Tryz.func28 Tryz.results28 (.bx bd) (.t (vI (bK - ((Int.tdiv aG 23) * 2)))) ⟨⟨((⟨ax,ay,az,ah⟩:Dsk):Dsk),(bK - ((Int.tdiv aG 23) * 2):Int),⟨_,(CS rfl (congrArg (Value.int .i64) (by rfl))),⟨_,rfl,⟨_,_,_,_,_,_,_,_,_,rfl,J.w1,O.w1,W.w1⟩⟩⟩,(by (refine ⟨by assumption,?_⟩; have q1:=DD.nl (by assumption:DD ⟨ax,ay,az,ah⟩); simp only at q1; omega))⟩,E⟩
end Go.Proofs.YtganlmloonielaaGreat
