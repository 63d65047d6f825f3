/- The laws on drawn disks: plain laws. -/
import Derived.Test.YtganlmloonielaaGreatTazMod30k19
import Derived.Test.YtganlmloonielaaGreatTazMod61k4
set_option linter.unusedVariables false
set_option linter.unusedSimpArgs false
namespace Go.Proofs.YtganlmloonielaaGreat
theorem Td:Af TV=false:=by
 unfold Af TV inR
 simp
theorem OF {d:Dsk} {st:List Stp} {c:Int} (h:Af (BP d st c)=true):BP d st c=toD d st c∧Af d=true∧0≤c∧Af (toD d st c)=true:=by
 unfold BP at h ⊢
 split at h
 ·rename_i hc
  rw [if_pos hc]
  exact ⟨rfl,hc⟩
 ·rw [Td] at h; cases h
theorem Kf {n m:Nat} {c:Int} (hc:¬ c< 0):0≤Int.tmod (n:Int) ((if (m:Int)< c then (m:Int) else c)+1)∧Int.tmod (n:Int) ((if (m:Int)< c then (m:Int) else c)+1)≤c∧Int.tmod (n:Int) ((if (m:Int)< c then (m:Int) else c)+1)≤m:=by
 have h0:∀ M:Int,0≤M→0≤Int.tmod (n:Int) (M+1)∧Int.tmod (n:Int) (M+1)< M+1:=fun M hM=>⟨Int.tmod_nonneg _ AB,Int.tmod_lt_of_pos _ AB⟩
 split
 ·have:=h0 m AB; omega
 ·have:=h0 c AB; omega
theorem PA {d:Dsk} {st:List Stp} {c k:Int} (k0:0≤k) (kc:k≤c):toD (toD d st k) (st.drop k.toNat) (c - k)=toD d st c:=by
 unfold toD
 rw [← List.foldl_append]
 congr 1
 rw [show c.toNat=k.toNat+(c - k).toNat by omega,List.take_add]
theorem SC {d:Dsk} {st:List Stp} (h:StW d st) (k:Int):StW (toD d st k) (st.drop k.toNat):=by
 refine ⟨by rw [List.length_drop]; have:=h.len; omega,fun x hx=>h.sz x (List.mem_of_mem_drop hx),fun x hx=>h.pt x (List.mem_of_mem_drop hx),fun j=>?_⟩
 unfold toD
 rw [← List.foldl_append,← List.take_add]
 exact h.ok _
theorem WO {d:Dsk} {st:List Stp} {k:Int} (hw:Af d=true→StW d st) (hy:Af (BP d st k)=true):StW (BP d st k) ((st.take st.length).drop k.toNat):=by
 obtain ⟨e,h1,_,_⟩:=OF hy
 rw [e,List.take_length]
 exact SC (hw h1) k
theorem Vw {d:Dsk} {st:List Stp} {c k:Int} (hx:Af (BP d st c)=true) (hy:Af (BP d st k)=true) (k0:0≤k) (kc:k≤c):(BP (BP d st k) ((st.take st.length).drop k.toNat) (c - k)==BP d st c)=true:=by
 obtain ⟨e1,h1,_,o1⟩:=OF hx
 obtain ⟨e2,h2,_,o2⟩:=OF hy
 rw [e1,e2,List.take_length,MB o2 AB (by rw [PA k0 kc]; exact o1),PA k0 kc]
 exact beq_self_eq_true _
theorem WQ {d:Dsk} {st:List Stp} (h:Af d=true):(BP d st 0==d)=true:=by
 rw [MB h AB (by rw [JO (Int.le_refl _)]; exact h),JO (Int.le_refl _)]
 exact beq_self_eq_true _
end Go.Proofs.YtganlmloonielaaGreat
namespace Go.Proofs.YtganlmloonielaaGreat
set_option maxRecDepth 100000
set_option maxHeartbeats 4000000
theorem IQ (code:List UInt8) {w:World} {F:Nat→Prop} {a1:Option Addr} {n1 c1:Nat} (h1:RepS w F a1 n1 c1 code)  : Calls Tryz.prog 22 [.slice a1 n1 c1].toArray w (As fun rv w'=>(∃ (d:Dsk) (st:List Stp) (c:Int),(∃ v0 v1,rv=.tuple #[v0,v1,.int .i64 (c)]∧VS (fo F w.heap.size) w' (d:Dsk) v0∧VL (fo F w.heap.size) w' (st:List Stp) v1)∧(DD d∧(Af d=true→StW d st)∧(-500≤c∧c≤10)))∧Ext w w'):=by
 refine goT Tryz.func22 ?_
 obtain ⟨rfl,iM,h1⟩:=h1.tp
 refine .s<|.g<|.np 27 [.slice none 0 0,.slice none 0 0,.slice none 0 0,vI 0] fun af fM cz cA W fN=>?_
 have iN:Cov nil w af:=Bc cz (Nat.le_refl _)
 replace h1:=(sn [] cA cz).g1 h1
 have O:=cA
 refine .r 2<|.d<|.s<|.g<|.r 1<|.cl (DX code h1 (w:=fM) (F:=nin (fo F w.heap.size) [af])) ?_
 rintro k7 eE ⟨⟨k8,ag,k9,lc,rfl,cB,cC,E⟩,dS⟩
 have dT:=al1 W.lt
 have fO:Gb w.heap.size fM.heap.size:=O.size
 have iO:=Ab cB W.lt
 have iP:Cov nil w ag:=BR cB O.size
 replace ⟨W,O⟩:=(se [] dS).g2 W O
 replace E:=RepS.KC (b:=ag) (M:=[af]) E dT fO
 refine .r 1<|.d<|.s<|.g<|.r 1<|.cl (CL cC (E.BB AD) AB (w:=eE) (F:=all)) ?_
 rintro ld bH ⟨⟨ae,⟨gf,lf,gh,gi,li,gj,gk,lj,gl,ai,gm,gn,ao,lk,aq,ar,ll,au,av,lm,aw,rfl,aS,aT,aU,ah,cy,aa,ab,ac⟩,iQ⟩,lp,iR,aM,cD⟩
 have aR:=al2 cC.lt W.lt
 have aV:Gb w.heap.size eE.heap.size:=O.size
 have iS:=Ab cy W.lt
 have iT:=Ab cy cC.lt
 have dU:Mv [ag,af] [ai,ag,af] eE bH:=Mv.cons (Mv.on cD AD) cy
 replace ⟨W,E,O⟩:=(sp dU cD).g3 W E O
 replace aS:RepS bH (nin (ge w.heap.size) [ai,ag,af]) _ _ _ _:=RepS.BC (s0:=w.heap.size) (M:=[ag,af]) aS aR aV
 replace aS:=aS.base (G':=fo F w.heap.size) (fun _ _ h=>.inr h)
 have iU:=aS.max
 replace aT:RepS bH (nin (ge w.heap.size) [ai,ag,af]) _ _ _ _:=RepS.BC (s0:=w.heap.size) (M:=[ag,af]) aT aR aV
 replace aT:=aT.base (G':=fo F w.heap.size) (fun _ _ h=>.inr h)
 have iV:=aT.max
 replace aU:RepS bH (nin (ge w.heap.size) [ai,ag,af]) _ _ _ _:=RepS.BC (s0:=w.heap.size) (M:=[ag,af]) aU aR aV
 replace aU:=aU.base (G':=fo F w.heap.size) (fun _ _ h=>.inr h)
 have iW:=aU.max
 replace ah:Own bH ai 107 (nin (ge w.heap.size) [ai,ag,af]) _ _ _:=Own.BC (s0:=w.heap.size) (M:=[ag,af]) ah aR aV
 replace ah:=ah.base (G':=fo F w.heap.size) (fun _ _ h=>.inr h)
 have iX:=ah.max
 have iY:=ah.len
 replace aa:RepS bH (nin (ge w.heap.size) [ai,ag,af]) _ _ _ _:=RepS.BC (s0:=w.heap.size) (M:=[ag,af]) aa aR aV
 replace aa:=aa.base (G':=fo F w.heap.size) (fun _ _ h=>.inr h)
 have iZ:=aa.max
 replace ab:RepS bH (nin (ge w.heap.size) [ai,ag,af]) _ _ _ _:=RepS.BC (s0:=w.heap.size) (M:=[ag,af]) ab aR aV
 replace ab:=ab.base (G':=fo F w.heap.size) (fun _ _ h=>.inr h)
 have ja:=ab.max
 replace ac:RepS bH (nin (ge w.heap.size) [ai,ag,af]) _ _ _ _:=RepS.BC (s0:=w.heap.size) (M:=[ag,af]) ac aR aV
 replace ac:=ac.base (G':=fo F w.heap.size) (fun _ _ h=>.inr h)
 have jb:=ac.max
 have fP:=aS.len
 subst fP
 have fQ:=aT.len
 subst fQ
 have fR:=aU.len
 subst fR
 have fS:=aa.len
 subst fS
 have fT:=ab.len
 subst fT
 have fU:=ac.len
 subst fU
 refine .np 70 [.slice none 0 0,.slice none 0 0,.slice none 0 0,.slice none 0 0,.slice none 0 0,.slice none 0 0,.slice none 0 0,vI 0] fun al jc aO cE eF eG=>?_
 have aI:=AS aO W.lt
 have aG:=AS aO aM.lt
 have aJ:=AS aO ah.lt
 have gp:=O.cn aO
 replace ⟨W,E,aM,aS,aT,aU,ah,aa,ab,ac,O⟩:=(sn [ai,ag,af] cE aO).g11 W E aM aS aT aU ah aa ab ac O
 refine .sc [.slice gf ae.store.idx.names.length gh,.slice gi ae.store.idx.AV.length gj,.slice gk ae.store.parts.length gl,vS ai gm gn,.slice ao ae.disk.files.length aq,.slice ar ae.disk.list.length au,.slice av ae.disk.names.length aw,vI ae.disk.next] eF fun dV cF C eH=>?_
 replace ⟨W,E,aM,aS,aT,aU,ah,aa,ab,ac,O⟩:=(so [al,ai,ag,af] cF).g11 W E aM aS aT aU ah aa ab ac O
 refine .d<|.s<|.g<|.r 1<|.ln C<|.r 1<|.ln C<|.cl (C2 ae.disk ae.store aa.ta ab.ta ac.ta aS.ta aT.ta aU.ta (ah.rep) (by have q1:WG _:=‹_›; exact q1.2) (by have q1:WG _:=‹_›; exact q1.1) (w:=dV) (F:=all)) ?_
 rintro jd fV ⟨⟨dW,dX,rfl,J⟩,cG⟩
 have cH:=al4 C.lt ah.lt aM.lt W.lt
 have eI:Gb w.heap.size dV.heap.size:=O.size
 replace ⟨W,E,aM,ah,aa,ab,ac,C,O⟩:=(se [al,ai,ag,af] cG).g9 W E aM ah aa ab ac C O
 have J:=J.fr cH eI
 replace J:=J.base (G':=fo F w.heap.size) (fun _ _ h=>.inr h)
 have gq:=J.max
 refine .r 1<|.d<|.s<|.s<|.g<|.r 1<|.cl (AZ 2 aM (E.BB AF) AB (w:=fV) (F:=all)) ?_
 rintro je aN ⟨⟨fW,rfl,gr⟩,jf,gs,aH,cI⟩
 replace ⟨W,E,ah,aa,ab,ac,C,J,O⟩:=(so [al,ai,ag,af] cI).g9 W E ah aa ab ac C J O
 refine .eq fW 0 (fun eJ=>?_) (fun eJ=>?_)
 ·refine .r 5<|.d<|.ct ?_
  replace E:=E.Ah
  replace aa:=aa.Ah
  replace ab:=ab.Ah
  replace ac:=ac.Ah
  replace J:=J.Ah
  have eK:Cov (mtb [ag] aN.heap.size) aN ag:=⟨.inl (.inl AD)⟩
  have eL:Gb (al+1) aN.heap.size:=C.lt
  refine .gd (mtb [ag] aN.heap.size) 4 fun jg cJ=>?_
  replace ⟨W,E,aH,ah,aa,ab,ac,C,J,O⟩:=(se [al,ai,ag,af] cJ).g10 W E aH ah aa ab ac C J O
  refine .r [0]<|.ln 1 C (Ax (all_cons aG all_nil) eL)<|.r [2]<|.go 3<|.cl (fun dY bi=>AZ 3 (aH.ext bi) ((E.BB AF).ext bi) AB (w:=dY) (F:=all)) ?_
  intro dY bi
  replace ⟨W,E,aH,ah,aa,ab,ac,C,J,O⟩:=(se [al,ai,ag,af] bi).g10 W E aH ah aa ab ac C J O
  rintro jh ji ⟨⟨aK,rfl,gt⟩,jj,gu,aP,bI⟩
  have hkeep_:=bI
  replace ⟨W,E,ah,aa,ab,ac,C,J,O⟩:=(so [al,ai,ag,af] bI).g9 W E ah aa ab ac C J O
  refine ⟨Chg.toS hkeep_ (Cov.toS eK),?_⟩
  refine .d fun dZ cK=>?_
  replace ⟨W,E,aP,ah,aa,ab,ac,C,J,O⟩:=(se [al,ai,ag,af] cK).g10 W E aP ah aa ab ac C J O
  replace E:=E.AU
  replace aa:=aa.AU
  replace ab:=ab.AU
  replace ac:=ac.AU
  replace J:=J.AU
  refine .cl (CB ae.disk aK aa.ta ab.ta ac.ta (by have q1:WG _:=‹_›; exact q1.2) (w:=dZ) (F:=all)) ?_
  rintro jk fX ⟨⟨d0,d3,rfl,aj⟩,cL⟩
  have cM:=al4 C.lt ah.lt aP.lt W.lt
  have eM:Gb w.heap.size dZ.heap.size:=O.size
  replace ⟨W,E,aP,ah,aa,ab,ac,C,J,O⟩:=(se [al,ai,ag,af] cL).g10 W E aP ah aa ab ac C J O
  have aj:=aj.fr cM eM
  replace aj:=aj.base (G':=fo F w.heap.size) (fun _ _ h=>.inr h)
  have gv:=aj.max
  refine .r 1<|.d<|.s<|.s<|.g<|.r 1<|.cl (AZ 12 aP (E.BB AF) AB (w:=fX) (F:=all)) ?_
  rintro jl aA ⟨⟨fY,rfl,gw⟩,jm,gx,aD,cN⟩
  replace ⟨W,E,ah,aa,ab,ac,C,J,aj,O⟩:=(so [al,ai,ag,af] cN).g10 W E ah aa ab ac C J aj O
  refine .eq fY 0 (fun eN=>?_) (fun eN=>?_)
  ·refine .r 3<|.bp ((((AT ae.disk aK).length):Int) > 0) (fun eO=>?_) (fun eO=>?_)
   ·refine .r 1<|.d<|.ct<|.g<|.r 1<|RG.sub (t:=37) (lo:=some (vI 1)) (hi:=none) aj 1 ((AT ae.disk aK).length) AA AA (.inr ⟨_,_,rfl,by omega⟩) (.inl ⟨rfl,rfl⟩) AB AB fun fZ f0 ax=>?_
    have gy:=ax.len; have gz:=ax.max
    refine .r 1<|.d<|.s ?_
    replace E:=E.Ah
    replace aa:=aa.Ah
    replace ab:=ab.Ah
    replace ac:=ac.Ah
    replace J:=J.Ah
    replace aj:=aj.Ah
    replace ax:=ax.Ah
    have eP:Cov (mtb [ai,af,ag] aA.heap.size) aA af:=⟨.inl (.inl AE)⟩
    have cO:Cov (mtb [ai,af,ag] aA.heap.size) aA ag:=⟨.inl (.inl AF)⟩
    have eQ:Gb (al+1) aA.heap.size:=C.lt
    refine .gd (mtb [ai,af,ag] aA.heap.size) 12 fun jn cP=>?_
    replace ⟨W,E,aD,ah,aa,ab,ac,C,J,aj,ax,O⟩:=(se [al,ai,ag,af] cP).g12 W E aD ah aa ab ac C J aj ax O
    refine .r [0]<|.ln 1 C (Ax (all_cons aJ (all_cons aI (all_cons aG all_nil))) eQ)<|.r [2,3,5]<|.go 4<|.cl (fun d4 bj=>AZ 6 (aD.ext bj) ((E.BB AF).ext bj) AB (w:=d4) (F:=all)) ?_
    intro d4 bj
    replace ⟨W,E,aD,ah,aa,ab,ac,C,J,aj,ax,O⟩:=(se [al,ai,ag,af] bj).g12 W E aD ah aa ab ac C J aj ax O
    rintro jo jp ⟨⟨cQ,rfl,gA⟩,jq,gC,eR,bJ⟩
    have hkeep_:=bJ
    replace ⟨W,E,ah,aa,ab,ac,C,J,aj,ax,O⟩:=(so [al,ai,ag,af] bJ).g11 W E ah aa ab ac C J aj ax O
    refine ⟨Chg.toS hkeep_ (Cov.toS cO),?_⟩
    refine .go 6<|.cl (fun d5 bk=>AZ 24 (eR.ext bk) ((E.BB AF).ext bk) AB (w:=d5) (F:=all)) ?_
    intro d5 bk
    replace ⟨W,E,ah,aa,ab,ac,C,J,aj,ax,O⟩:=(se [al,ai,ag,af] bk).g11 W E ah aa ab ac C J aj ax O
    rintro jr js ⟨⟨aW,rfl,gD⟩,jt,gE,gF,bK⟩
    have hkeep_:=bK
    replace ⟨W,E,ah,aa,ab,ac,C,J,aj,ax,O⟩:=(so [al,ai,ag,af] bK).g11 W E ah aa ab ac C J aj ax O
    refine ⟨Chg.toS hkeep_ (Cov.toS cO),?_⟩
    have gG:=FH (a:=aW) (n:=23) AB AB
    refine GA.quo (i:=7) (t:=3) (a:=aW) (b:=23) AA AA AB AB<|GA.int (i:=8) ((Int.tdiv aW 23) * 7) AA AB<|GA.int (i:=9) (cQ - ((Int.tdiv aW 23) * 7)) AA AB<|.go 10<|GE.CK (t':=27) (o:=0) (v:=.agg #[.slice ao ae.disk.files.length aq,.slice ar ae.disk.list.length au,.slice av ae.disk.names.length aw,vI ae.disk.next]) [.slice ao ae.disk.files.length aq,.slice ar ae.disk.list.length au,.slice av ae.disk.names.length aw,vI ae.disk.next] W AA AA AA fun ju cR=>?_
    replace ⟨W,E,ah,aa,ab,ac,C,J,aj,ax,O⟩:=(se [al,ai,ag,af] cR).g11 W E ah aa ab ac C J aj ax O
    intro jv bL bM eS
    have hkeep_:=Chg.toS bL (Cov.toS eP)
    replace ⟨E,ah,aa,ab,ac,C,J,aj,ax,O⟩:=(so [al,ai,ag,af] bL).g10 E ah aa ab ac C J aj ax O
    refine ⟨hkeep_,?_⟩
    refine .r [11]<|.d fun jw cS=>?_
    replace ⟨bM,E,ah,aa,ab,ac,C,J,aj,ax,O⟩:=(se [al,ai,ag,af] cS).g11 bM E ah aa ab ac C J aj ax O
    replace E:=E.AU
    replace aa:=aa.AU
    replace ab:=ab.AU
    replace ac:=ac.AU
    replace J:=J.AU
    replace aj:=aj.AU
    replace ax:=ax.AU
    exact .r 1<|.d<|T.Hc (v:=.agg #[.slice ao ae.disk.files.length aq,.slice ar ae.disk.list.length au,.slice av ae.disk.names.length aw,vI ae.disk.next]) (v':=.slice fZ ((AT ae.disk aK).length - 1) f0) (v'':=vI (cQ - ((Int.tdiv aW 23) * 7))) AA Tryz.func22 Tryz.results22 (Bf.cell (ad:=⟨af,0,none⟩) AA ((bM.has 0 [.slice ao ae.disk.files.length aq,.slice ar ae.disk.list.length au,.slice av ae.disk.names.length aw,vI ae.disk.next] AA).EW AA)) (Bf.tmp AA) (Bf.tmp AA) ⟨⟨(ae.disk:Dsk),((((AT ae.disk aK).take ((AT ae.disk aK).length)).drop 1):List Stp),(cQ - ((Int.tdiv aW 23) * 7):Int),⟨_,_,(Ic rfl rfl (congrArg (Value.int .i64) (by rfl))),⟨_,rfl,⟨_,_,_,_,_,_,_,_,_,rfl,aa.w1,ab.w1,ac.w1⟩⟩,(ax.vl (by rfl) (fun _ _ h=>h.1))⟩,(by (have q1:WG _:=‹_›; exact ⟨q1.2,fun hk=>by exact (Cb q1.2 _).2,by omega⟩))⟩,O⟩
   refine .r 1<|.d<|.cf<|.sk<|.s ?_
   replace E:=E.Ah
   replace aa:=aa.Ah
   replace ab:=ab.Ah
   replace ac:=ac.Ah
   replace J:=J.Ah
   replace aj:=aj.Ah
   have eT:Cov (mtb [ai,af,ag] aA.heap.size) aA af:=⟨.inl (.inl AE)⟩
   have cT:Cov (mtb [ai,af,ag] aA.heap.size) aA ag:=⟨.inl (.inl AF)⟩
   have eU:Gb (al+1) aA.heap.size:=C.lt
   refine .gd (mtb [ai,af,ag] aA.heap.size) 12 fun jx cU=>?_
   replace ⟨W,E,aD,ah,aa,ab,ac,C,J,aj,O⟩:=(se [al,ai,ag,af] cU).g11 W E aD ah aa ab ac C J aj O
   refine .r [0]<|.ln 1 C (Ax (all_cons aJ (all_cons aI (all_cons aG all_nil))) eU)<|.r [2,3,5]<|.go 4<|.cl (fun d6 bm=>AZ 6 (aD.ext bm) ((E.BB AF).ext bm) AB (w:=d6) (F:=all)) ?_
   intro d6 bm
   replace ⟨W,E,aD,ah,aa,ab,ac,C,J,aj,O⟩:=(se [al,ai,ag,af] bm).g11 W E aD ah aa ab ac C J aj O
   rintro jy jz ⟨⟨cV,rfl,gH⟩,jA,gI,eV,bN⟩
   have hkeep_:=bN
   replace ⟨W,E,ah,aa,ab,ac,C,J,aj,O⟩:=(so [al,ai,ag,af] bN).g10 W E ah aa ab ac C J aj O
   refine ⟨Chg.toS hkeep_ (Cov.toS cT),?_⟩
   refine .go 6<|.cl (fun d7 bn=>AZ 24 (eV.ext bn) ((E.BB AF).ext bn) AB (w:=d7) (F:=all)) ?_
   intro d7 bn
   replace ⟨W,E,ah,aa,ab,ac,C,J,aj,O⟩:=(se [al,ai,ag,af] bn).g10 W E ah aa ab ac C J aj O
   rintro jB jC ⟨⟨aX,rfl,gJ⟩,jD,gK,gL,bO⟩
   have hkeep_:=bO
   replace ⟨W,E,ah,aa,ab,ac,C,J,aj,O⟩:=(so [al,ai,ag,af] bO).g10 W E ah aa ab ac C J aj O
   refine ⟨Chg.toS hkeep_ (Cov.toS cT),?_⟩
   have gM:=FH (a:=aX) (n:=23) AB AB
   refine GA.quo (i:=7) (t:=3) (a:=aX) (b:=23) AA AA AB AB<|GA.int (i:=8) ((Int.tdiv aX 23) * 7) AA AB<|GA.int (i:=9) (cV - ((Int.tdiv aX 23) * 7)) AA AB<|.go 10<|GE.CK (t':=27) (o:=0) (v:=.agg #[.slice ao ae.disk.files.length aq,.slice ar ae.disk.list.length au,.slice av ae.disk.names.length aw,vI ae.disk.next]) [.slice ao ae.disk.files.length aq,.slice ar ae.disk.list.length au,.slice av ae.disk.names.length aw,vI ae.disk.next] W AA AA AA fun jE cW=>?_
   replace ⟨W,E,ah,aa,ab,ac,C,J,aj,O⟩:=(se [al,ai,ag,af] cW).g10 W E ah aa ab ac C J aj O
   intro jF bP bQ eW
   have hkeep_:=Chg.toS bP (Cov.toS eT)
   replace ⟨E,ah,aa,ab,ac,C,J,aj,O⟩:=(so [al,ai,ag,af] bP).g9 E ah aa ab ac C J aj O
   refine ⟨hkeep_,?_⟩
   refine .r [11]<|.d fun jG cX=>?_
   replace ⟨bQ,E,ah,aa,ab,ac,C,J,aj,O⟩:=(se [al,ai,ag,af] cX).g10 bQ E ah aa ab ac C J aj O
   replace E:=E.AU
   replace aa:=aa.AU
   replace ab:=ab.AU
   replace ac:=ac.AU
   replace J:=J.AU
   replace aj:=aj.AU
   exact .r 1<|.d<|T.Hc (v:=.agg #[.slice ao ae.disk.files.length aq,.slice ar ae.disk.list.length au,.slice av ae.disk.names.length aw,vI ae.disk.next]) (v':=.slice d0 ((AT ae.disk aK).length) d3) (v'':=vI (cV - ((Int.tdiv aX 23) * 7))) AA Tryz.func22 Tryz.results22 (Bf.cell (ad:=⟨af,0,none⟩) AA ((bQ.has 0 [.slice ao ae.disk.files.length aq,.slice ar ae.disk.list.length au,.slice av ae.disk.names.length aw,vI ae.disk.next] AA).EW AA)) (Bf.tmp AA) (Bf.tmp AA) ⟨⟨(ae.disk:Dsk),(AT ae.disk aK:List Stp),(cV - ((Int.tdiv aX 23) * 7):Int),⟨_,_,(Ic rfl rfl (congrArg (Value.int .i64) (by rfl))),⟨_,rfl,⟨_,_,_,_,_,_,_,_,_,rfl,aa.w1,ab.w1,ac.w1⟩⟩,(aj.vl (by rfl) (fun _ _ h=>h.1))⟩,(by (have q1:WG _:=‹_›; exact ⟨q1.2,fun hk=>by exact (Cb q1.2 _).1,by omega⟩))⟩,O⟩
  refine .r 5<|.d<|.cf<|.sk<|.s ?_
  replace E:=E.Ah
  replace aa:=aa.Ah
  replace ab:=ab.Ah
  replace ac:=ac.Ah
  replace J:=J.Ah
  replace aj:=aj.Ah
  have eX:Cov (mtb [ai,af,ag] aA.heap.size) aA af:=⟨.inl (.inl AE)⟩
  have cY:Cov (mtb [ai,af,ag] aA.heap.size) aA ag:=⟨.inl (.inl AF)⟩
  have eY:Gb (al+1) aA.heap.size:=C.lt
  refine .gd (mtb [ai,af,ag] aA.heap.size) 12 fun jH cZ=>?_
  replace ⟨W,E,aD,ah,aa,ab,ac,C,J,aj,O⟩:=(se [al,ai,ag,af] cZ).g11 W E aD ah aa ab ac C J aj O
  refine .r [0]<|.ln 1 C (Ax (all_cons aJ (all_cons aI (all_cons aG all_nil))) eY)<|.r [2,3,5]<|.go 4<|.cl (fun d8 bo=>AZ 6 (aD.ext bo) ((E.BB AF).ext bo) AB (w:=d8) (F:=all)) ?_
  intro d8 bo
  replace ⟨W,E,ah,aa,ab,ac,C,J,aj,O⟩:=(se [al,ai,ag,af] bo).g10 W E ah aa ab ac C J aj O
  rintro jI jJ ⟨⟨c7,rfl,gN⟩,jK,gO,eZ,bR⟩
  have hkeep_:=bR
  replace ⟨W,E,ah,aa,ab,ac,C,J,aj,O⟩:=(so [al,ai,ag,af] bR).g10 W E ah aa ab ac C J aj O
  refine ⟨Chg.toS hkeep_ (Cov.toS cY),?_⟩
  refine .go 6<|.cl (fun d9 bq=>AZ 24 (eZ.ext bq) ((E.BB AF).ext bq) AB (w:=d9) (F:=all)) ?_
  intro d9 bq
  replace ⟨W,E,ah,aa,ab,ac,C,J,aj,O⟩:=(se [al,ai,ag,af] bq).g10 W E ah aa ab ac C J aj O
  rintro jL jM ⟨⟨aY,rfl,gP⟩,jN,gQ,gR,bS⟩
  have hkeep_:=bS
  replace ⟨W,E,ah,aa,ab,ac,C,J,aj,O⟩:=(so [al,ai,ag,af] bS).g10 W E ah aa ab ac C J aj O
  refine ⟨Chg.toS hkeep_ (Cov.toS cY),?_⟩
  have gS:=FH (a:=aY) (n:=23) AB AB
  refine GA.quo (i:=7) (t:=3) (a:=aY) (b:=23) AA AA AB AB<|GA.int (i:=8) ((Int.tdiv aY 23) * 7) AA AB<|GA.int (i:=9) (c7 - ((Int.tdiv aY 23) * 7)) AA AB<|.go 10<|GE.CK (t':=27) (o:=0) (v:=.agg #[.slice ao ae.disk.files.length aq,.slice ar ae.disk.list.length au,.slice av ae.disk.names.length aw,vI ae.disk.next]) [.slice ao ae.disk.files.length aq,.slice ar ae.disk.list.length au,.slice av ae.disk.names.length aw,vI ae.disk.next] W AA AA AA fun jO c8=>?_
  replace ⟨W,E,ah,aa,ab,ac,C,J,aj,O⟩:=(se [al,ai,ag,af] c8).g10 W E ah aa ab ac C J aj O
  intro jP bT bU e7
  have hkeep_:=Chg.toS bT (Cov.toS eX)
  replace ⟨E,ah,aa,ab,ac,C,J,aj,O⟩:=(so [al,ai,ag,af] bT).g9 E ah aa ab ac C J aj O
  refine ⟨hkeep_,?_⟩
  refine .r [11]<|.d fun jQ c9=>?_
  replace ⟨bU,E,ah,aa,ab,ac,C,J,aj,O⟩:=(se [al,ai,ag,af] c9).g10 bU E ah aa ab ac C J aj O
  replace E:=E.AU
  replace aa:=aa.AU
  replace ab:=ab.AU
  replace ac:=ac.AU
  replace J:=J.AU
  replace aj:=aj.AU
  exact .r 1<|.d<|T.Hc (v:=.agg #[.slice ao ae.disk.files.length aq,.slice ar ae.disk.list.length au,.slice av ae.disk.names.length aw,vI ae.disk.next]) (v':=.slice d0 ((AT ae.disk aK).length) d3) (v'':=vI (c7 - ((Int.tdiv aY 23) * 7))) AA Tryz.func22 Tryz.results22 (Bf.cell (ad:=⟨af,0,none⟩) AA ((bU.has 0 [.slice ao ae.disk.files.length aq,.slice ar ae.disk.list.length au,.slice av ae.disk.names.length aw,vI ae.disk.next] AA).EW AA)) (Bf.tmp AA) (Bf.tmp AA) ⟨⟨(ae.disk:Dsk),(AT ae.disk aK:List Stp),(c7 - ((Int.tdiv aY 23) * 7):Int),⟨_,_,(Ic rfl rfl (congrArg (Value.int .i64) (by rfl))),⟨_,rfl,⟨_,_,_,_,_,_,_,_,_,rfl,aa.w1,ab.w1,ac.w1⟩⟩,(aj.vl (by rfl) (fun _ _ h=>h.1))⟩,(by (have q1:WG _:=‹_›; exact ⟨q1.2,fun hk=>by exact (Cb q1.2 _).1,by omega⟩))⟩,O⟩
 refine .r 3<|.eq (((BA ae.disk ae.store).length):Int) 0 (fun e8=>?_) (fun e8=>?_)
 ·refine .r 1<|.d<|.ct ?_
  replace E:=E.Ah
  replace aa:=aa.Ah
  replace ab:=ab.Ah
  replace ac:=ac.Ah
  replace J:=J.Ah
  have fa:Cov (mtb [ag] aN.heap.size) aN ag:=⟨.inl (.inl AD)⟩
  have fb:Gb (al+1) aN.heap.size:=C.lt
  refine .gd (mtb [ag] aN.heap.size) 4 fun jR da=>?_
  replace ⟨W,E,aH,ah,aa,ab,ac,C,J,O⟩:=(se [al,ai,ag,af] da).g10 W E aH ah aa ab ac C J O
  refine .r [0]<|.ln 1 C (Ax (all_cons aG all_nil) fb)<|.r [2]<|.go 3<|.cl (fun ec br=>AZ 3 (aH.ext br) ((E.BB AF).ext br) AB (w:=ec) (F:=all)) ?_
  intro ec br
  replace ⟨W,E,aH,ah,aa,ab,ac,C,J,O⟩:=(se [al,ai,ag,af] br).g10 W E aH ah aa ab ac C J O
  rintro jS jT ⟨⟨aL,rfl,gT⟩,jU,gU,aQ,bV⟩
  have hkeep_:=bV
  replace ⟨W,E,ah,aa,ab,ac,C,J,O⟩:=(so [al,ai,ag,af] bV).g9 W E ah aa ab ac C J O
  refine ⟨Chg.toS hkeep_ (Cov.toS fa),?_⟩
  refine .d fun ed db=>?_
  replace ⟨W,E,aQ,ah,aa,ab,ac,C,J,O⟩:=(se [al,ai,ag,af] db).g10 W E aQ ah aa ab ac C J O
  replace E:=E.AU
  replace aa:=aa.AU
  replace ab:=ab.AU
  replace ac:=ac.AU
  replace J:=J.AU
  refine .cl (CB ae.disk aL aa.ta ab.ta ac.ta (by have q1:WG _:=‹_›; exact q1.2) (w:=ed) (F:=all)) ?_
  rintro jV f5 ⟨⟨ee,ef,rfl,ak⟩,de⟩
  have df:=al4 C.lt ah.lt aQ.lt W.lt
  have fc:Gb w.heap.size ed.heap.size:=O.size
  replace ⟨W,E,aQ,aa,ab,ac,C,J,O⟩:=(se [al,ai,ag,af] de).g9 W E aQ aa ab ac C J O
  have ak:=ak.fr df fc
  replace ak:=ak.base (G':=fo F w.heap.size) (fun _ _ h=>.inr h)
  have gV:=ak.max
  refine .r 1<|.d<|.s<|.s<|.g<|.r 1<|.cl (AZ 12 aQ (E.BB AF) AB (w:=f5) (F:=all)) ?_
  rintro jW aB ⟨⟨f6,rfl,gW⟩,jX,gX,aE,dg⟩
  replace ⟨W,E,aa,ab,ac,C,J,ak,O⟩:=(so [al,ai,ag,af] dg).g9 W E aa ab ac C J ak O
  refine .eq f6 0 (fun fd=>?_) (fun fd=>?_)
  ·refine .r 3<|.bp ((((AT ae.disk aL).length):Int) > 0) (fun fe=>?_) (fun fe=>?_)
   ·refine .r 1<|.d<|.ct<|.g<|.r 1<|RG.sub (t:=37) (lo:=some (vI 1)) (hi:=none) ak 1 ((AT ae.disk aL).length) AA AA (.inr ⟨_,_,rfl,by omega⟩) (.inl ⟨rfl,rfl⟩) AB AB fun f7 f8 ay=>?_
    have gY:=ay.len; have gZ:=ay.max
    refine .r 1<|.d<|.s ?_
    replace E:=E.Ah
    replace aa:=aa.Ah
    replace ab:=ab.Ah
    replace ac:=ac.Ah
    replace J:=J.Ah
    replace ak:=ak.Ah
    replace ay:=ay.Ah
    have ff:Cov (mtb [ai,af,ag] aB.heap.size) aB af:=⟨.inl (.inl AE)⟩
    have dh:Cov (mtb [ai,af,ag] aB.heap.size) aB ag:=⟨.inl (.inl AF)⟩
    have fg:Gb (al+1) aB.heap.size:=C.lt
    refine .gd (mtb [ai,af,ag] aB.heap.size) 12 fun jY dj=>?_
    replace ⟨W,E,aE,aa,ab,ac,C,J,ak,ay,O⟩:=(se [al,ai,ag,af] dj).g11 W E aE aa ab ac C J ak ay O
    refine .r [0]<|.ln 1 C (Ax (all_cons aJ (all_cons aI (all_cons aG all_nil))) fg)<|.r [2,3,5]<|.go 4<|.cl (fun eg bt=>AZ 6 (aE.ext bt) ((E.BB AF).ext bt) AB (w:=eg) (F:=all)) ?_
    intro eg bt
    replace ⟨W,E,aE,aa,ab,ac,C,J,ak,ay,O⟩:=(se [al,ai,ag,af] bt).g11 W E aE aa ab ac C J ak ay O
    rintro jZ j0 ⟨⟨dm,rfl,g0⟩,j1,hC,fh,bW⟩
    have hkeep_:=bW
    replace ⟨W,E,aa,ab,ac,C,J,ak,ay,O⟩:=(so [al,ai,ag,af] bW).g10 W E aa ab ac C J ak ay O
    refine ⟨Chg.toS hkeep_ (Cov.toS dh),?_⟩
    refine .go 6<|.cl (fun eh bu=>AZ 24 (fh.ext bu) ((E.BB AF).ext bu) AB (w:=eh) (F:=all)) ?_
    intro eh bu
    replace ⟨W,E,aa,ab,ac,C,J,ak,ay,O⟩:=(se [al,ai,ag,af] bu).g10 W E aa ab ac C J ak ay O
    rintro j2 j3 ⟨⟨aZ,rfl,hD⟩,j4,hE,hH,bX⟩
    have hkeep_:=bX
    replace ⟨W,E,aa,ab,ac,C,J,ak,ay,O⟩:=(so [al,ai,ag,af] bX).g10 W E aa ab ac C J ak ay O
    refine ⟨Chg.toS hkeep_ (Cov.toS dh),?_⟩
    have hJ:=FH (a:=aZ) (n:=23) AB AB
    refine GA.quo (i:=7) (t:=3) (a:=aZ) (b:=23) AA AA AB AB<|GA.int (i:=8) ((Int.tdiv aZ 23) * 7) AA AB<|GA.int (i:=9) (dm - ((Int.tdiv aZ 23) * 7)) AA AB<|.go 10<|GE.CK (t':=27) (o:=0) (v:=.agg #[.slice ao ae.disk.files.length aq,.slice ar ae.disk.list.length au,.slice av ae.disk.names.length aw,vI ae.disk.next]) [.slice ao ae.disk.files.length aq,.slice ar ae.disk.list.length au,.slice av ae.disk.names.length aw,vI ae.disk.next] W AA AA AA fun j5 dp=>?_
    replace ⟨W,E,aa,ab,ac,C,J,ak,ay,O⟩:=(se [al,ai,ag,af] dp).g10 W E aa ab ac C J ak ay O
    intro j6 bY bZ fi
    have hkeep_:=Chg.toS bY (Cov.toS ff)
    replace ⟨E,aa,ab,ac,C,J,ak,ay,O⟩:=(so [al,ai,ag,af] bY).g9 E aa ab ac C J ak ay O
    refine ⟨hkeep_,?_⟩
    refine .r [11]<|.d fun j7 dq=>?_
    replace ⟨bZ,E,aa,ab,ac,C,J,ak,ay,O⟩:=(se [al,ai,ag,af] dq).g10 bZ E aa ab ac C J ak ay O
    replace E:=E.AU
    replace aa:=aa.AU
    replace ab:=ab.AU
    replace ac:=ac.AU
    replace J:=J.AU
    replace ak:=ak.AU
    replace ay:=ay.AU
    exact .r 1<|.d<|T.Hc (v:=.agg #[.slice ao ae.disk.files.length aq,.slice ar ae.disk.list.length au,.slice av ae.disk.names.length aw,vI ae.disk.next]) (v':=.slice f7 ((AT ae.disk aL).length - 1) f8) (v'':=vI (dm - ((Int.tdiv aZ 23) * 7))) AA Tryz.func22 Tryz.results22 (Bf.cell (ad:=⟨af,0,none⟩) AA ((bZ.has 0 [.slice ao ae.disk.files.length aq,.slice ar ae.disk.list.length au,.slice av ae.disk.names.length aw,vI ae.disk.next] AA).EW AA)) (Bf.tmp AA) (Bf.tmp AA) ⟨⟨(ae.disk:Dsk),((((AT ae.disk aL).take ((AT ae.disk aL).length)).drop 1):List Stp),(dm - ((Int.tdiv aZ 23) * 7):Int),⟨_,_,(Ic rfl rfl (congrArg (Value.int .i64) (by rfl))),⟨_,rfl,⟨_,_,_,_,_,_,_,_,_,rfl,aa.w1,ab.w1,ac.w1⟩⟩,(ay.vl (by rfl) (fun _ _ h=>h.1))⟩,(by (have q1:WG _:=‹_›; exact ⟨q1.2,fun hk=>by exact (Cb q1.2 _).2,by omega⟩))⟩,O⟩
   refine .r 1<|.d<|.cf<|.sk<|.s ?_
   replace E:=E.Ah
   replace aa:=aa.Ah
   replace ab:=ab.Ah
   replace ac:=ac.Ah
   replace J:=J.Ah
   replace ak:=ak.Ah
   have fj:Cov (mtb [ai,af,ag] aB.heap.size) aB af:=⟨.inl (.inl AE)⟩
   have dr:Cov (mtb [ai,af,ag] aB.heap.size) aB ag:=⟨.inl (.inl AF)⟩
   have fk:Gb (al+1) aB.heap.size:=C.lt
   refine .gd (mtb [ai,af,ag] aB.heap.size) 12 fun j8 dt=>?_
   replace ⟨W,E,aE,aa,ab,ac,C,J,ak,O⟩:=(se [al,ai,ag,af] dt).g10 W E aE aa ab ac C J ak O
   refine .r [0]<|.ln 1 C (Ax (all_cons aJ (all_cons aI (all_cons aG all_nil))) fk)<|.r [2,3,5]<|.go 4<|.cl (fun ej bv=>AZ 6 (aE.ext bv) ((E.BB AF).ext bv) AB (w:=ej) (F:=all)) ?_
   intro ej bv
   replace ⟨W,E,aE,aa,ab,ac,C,J,ak,O⟩:=(se [al,ai,ag,af] bv).g10 W E aE aa ab ac C J ak O
   rintro j9 ka ⟨⟨du,rfl,hN⟩,kb,hO,fm,b0⟩
   have hkeep_:=b0
   replace ⟨W,E,aa,ab,ac,C,J,ak,O⟩:=(so [al,ai,ag,af] b0).g9 W E aa ab ac C J ak O
   refine ⟨Chg.toS hkeep_ (Cov.toS dr),?_⟩
   refine .go 6<|.cl (fun ek bw=>AZ 24 (fm.ext bw) ((E.BB AF).ext bw) AB (w:=ek) (F:=all)) ?_
   intro ek bw
   replace ⟨W,E,aa,ab,ac,C,J,ak,O⟩:=(se [al,ai,ag,af] bw).g9 W E aa ab ac C J ak O
   rintro kd ke ⟨⟨ba,rfl,hQ⟩,kf,hV,hW,b6⟩
   have hkeep_:=b6
   replace ⟨W,E,aa,ab,ac,C,J,ak,O⟩:=(so [al,ai,ag,af] b6).g9 W E aa ab ac C J ak O
   refine ⟨Chg.toS hkeep_ (Cov.toS dr),?_⟩
   have ia:=FH (a:=ba) (n:=23) AB AB
   refine GA.quo (i:=7) (t:=3) (a:=ba) (b:=23) AA AA AB AB<|GA.int (i:=8) ((Int.tdiv ba 23) * 7) AA AB<|GA.int (i:=9) (du - ((Int.tdiv ba 23) * 7)) AA AB<|.go 10<|GE.CK (t':=27) (o:=0) (v:=.agg #[.slice ao ae.disk.files.length aq,.slice ar ae.disk.list.length au,.slice av ae.disk.names.length aw,vI ae.disk.next]) [.slice ao ae.disk.files.length aq,.slice ar ae.disk.list.length au,.slice av ae.disk.names.length aw,vI ae.disk.next] W AA AA AA fun kg dv=>?_
   replace ⟨W,E,aa,ab,ac,C,J,ak,O⟩:=(se [al,ai,ag,af] dv).g9 W E aa ab ac C J ak O
   intro kh b7 b8 fp
   have hkeep_:=Chg.toS b7 (Cov.toS fj)
   replace ⟨E,aa,ab,ac,C,J,ak,O⟩:=(so [al,ai,ag,af] b7).g8 E aa ab ac C J ak O
   refine ⟨hkeep_,?_⟩
   refine .r [11]<|.d fun ki dw=>?_
   replace ⟨b8,E,aa,ab,ac,C,J,ak,O⟩:=(se [al,ai,ag,af] dw).g9 b8 E aa ab ac C J ak O
   replace E:=E.AU
   replace aa:=aa.AU
   replace ab:=ab.AU
   replace ac:=ac.AU
   replace J:=J.AU
   replace ak:=ak.AU
   exact .r 1<|.d<|T.Hc (v:=.agg #[.slice ao ae.disk.files.length aq,.slice ar ae.disk.list.length au,.slice av ae.disk.names.length aw,vI ae.disk.next]) (v':=.slice ee ((AT ae.disk aL).length) ef) (v'':=vI (du - ((Int.tdiv ba 23) * 7))) AA Tryz.func22 Tryz.results22 (Bf.cell (ad:=⟨af,0,none⟩) AA ((b8.has 0 [.slice ao ae.disk.files.length aq,.slice ar ae.disk.list.length au,.slice av ae.disk.names.length aw,vI ae.disk.next] AA).EW AA)) (Bf.tmp AA) (Bf.tmp AA) ⟨⟨(ae.disk:Dsk),(AT ae.disk aL:List Stp),(du - ((Int.tdiv ba 23) * 7):Int),⟨_,_,(Ic rfl rfl (congrArg (Value.int .i64) (by rfl))),⟨_,rfl,⟨_,_,_,_,_,_,_,_,_,rfl,aa.w1,ab.w1,ac.w1⟩⟩,(ak.vl (by rfl) (fun _ _ h=>h.1))⟩,(by (have q1:WG _:=‹_›; exact ⟨q1.2,fun hk=>by exact (Cb q1.2 _).1,by omega⟩))⟩,O⟩
  refine .r 5<|.d<|.cf<|.sk<|.s ?_
  replace E:=E.Ah
  replace aa:=aa.Ah
  replace ab:=ab.Ah
  replace ac:=ac.Ah
  replace J:=J.Ah
  replace ak:=ak.Ah
  have fq:Cov (mtb [ai,af,ag] aB.heap.size) aB af:=⟨.inl (.inl AE)⟩
  have dx:Cov (mtb [ai,af,ag] aB.heap.size) aB ag:=⟨.inl (.inl AF)⟩
  have ft:Gb (al+1) aB.heap.size:=C.lt
  refine .gd (mtb [ai,af,ag] aB.heap.size) 12 fun kj dy=>?_
  replace ⟨W,E,aE,aa,ab,ac,C,J,ak,O⟩:=(se [al,ai,ag,af] dy).g10 W E aE aa ab ac C J ak O
  refine .r [0]<|.ln 1 C (Ax (all_cons aJ (all_cons aI (all_cons aG all_nil))) ft)<|.r [2,3,5]<|.go 4<|.cl (fun en bz=>AZ 6 (aE.ext bz) ((E.BB AF).ext bz) AB (w:=en) (F:=all)) ?_
  intro en bz
  replace ⟨W,E,aa,ab,ac,C,J,ak,O⟩:=(se [al,ai,ag,af] bz).g9 W E aa ab ac C J ak O
  rintro kk kl ⟨⟨dz,rfl,ic⟩,km,ie,fu,b9⟩
  have hkeep_:=b9
  replace ⟨W,E,aa,ab,ac,C,J,ak,O⟩:=(so [al,ai,ag,af] b9).g9 W E aa ab ac C J ak O
  refine ⟨Chg.toS hkeep_ (Cov.toS dx),?_⟩
  refine .go 6<|.cl (fun et bA=>AZ 24 (fu.ext bA) ((E.BB AF).ext bA) AB (w:=et) (F:=all)) ?_
  intro et bA
  replace ⟨W,E,aa,ab,ac,C,J,ak,O⟩:=(se [al,ai,ag,af] bA).g9 W E aa ab ac C J ak O
  rintro ko kr ⟨⟨bc,rfl,ig⟩,ks,ii,ij,cd⟩
  have hkeep_:=cd
  replace ⟨W,E,aa,ab,ac,C,J,ak,O⟩:=(so [al,ai,ag,af] cd).g9 W E aa ab ac C J ak O
  refine ⟨Chg.toS hkeep_ (Cov.toS dx),?_⟩
  have ik:=FH (a:=bc) (n:=23) AB AB
  refine GA.quo (i:=7) (t:=3) (a:=bc) (b:=23) AA AA AB AB<|GA.int (i:=8) ((Int.tdiv bc 23) * 7) AA AB<|GA.int (i:=9) (dz - ((Int.tdiv bc 23) * 7)) AA AB<|.go 10<|GE.CK (t':=27) (o:=0) (v:=.agg #[.slice ao ae.disk.files.length aq,.slice ar ae.disk.list.length au,.slice av ae.disk.names.length aw,vI ae.disk.next]) [.slice ao ae.disk.files.length aq,.slice ar ae.disk.list.length au,.slice av ae.disk.names.length aw,vI ae.disk.next] W AA AA AA fun kt dA=>?_
  replace ⟨W,E,aa,ab,ac,C,J,ak,O⟩:=(se [al,ai,ag,af] dA).g9 W E aa ab ac C J ak O
  intro ku ce cg fv
  have hkeep_:=Chg.toS ce (Cov.toS fq)
  replace ⟨E,aa,ab,ac,C,J,ak,O⟩:=(so [al,ai,ag,af] ce).g8 E aa ab ac C J ak O
  refine ⟨hkeep_,?_⟩
  refine .r [11]<|.d fun kv dB=>?_
  replace ⟨cg,E,aa,ab,ac,C,J,ak,O⟩:=(se [al,ai,ag,af] dB).g9 cg E aa ab ac C J ak O
  replace E:=E.AU
  replace aa:=aa.AU
  replace ab:=ab.AU
  replace ac:=ac.AU
  replace J:=J.AU
  replace ak:=ak.AU
  exact .r 1<|.d<|T.Hc (v:=.agg #[.slice ao ae.disk.files.length aq,.slice ar ae.disk.list.length au,.slice av ae.disk.names.length aw,vI ae.disk.next]) (v':=.slice ee ((AT ae.disk aL).length) ef) (v'':=vI (dz - ((Int.tdiv bc 23) * 7))) AA Tryz.func22 Tryz.results22 (Bf.cell (ad:=⟨af,0,none⟩) AA ((cg.has 0 [.slice ao ae.disk.files.length aq,.slice ar ae.disk.list.length au,.slice av ae.disk.names.length aw,vI ae.disk.next] AA).EW AA)) (Bf.tmp AA) (Bf.tmp AA) ⟨⟨(ae.disk:Dsk),(AT ae.disk aL:List Stp),(dz - ((Int.tdiv bc 23) * 7):Int),⟨_,_,(Ic rfl rfl (congrArg (Value.int .i64) (by rfl))),⟨_,rfl,⟨_,_,_,_,_,_,_,_,_,rfl,aa.w1,ab.w1,ac.w1⟩⟩,(ak.vl (by rfl) (fun _ _ h=>h.1))⟩,(by (have q1:WG _:=‹_›; exact ⟨q1.2,fun hk=>by exact (Cb q1.2 _).1,by omega⟩))⟩,O⟩
 refine .r 1<|.d<|.cf<|.sk<|.s<|.s<|.g<|.r 1<|.cl (AZ 12 aH (E.BB AF) AB (w:=aN) (F:=all)) ?_
 rintro kw aC ⟨⟨f9,rfl,il⟩,kx,im,aF,dC⟩
 replace ⟨W,E,aa,ab,ac,C,J,O⟩:=(so [al,ai,ag,af] dC).g8 W E aa ab ac C J O
 refine .eq f9 0 (fun fw=>?_) (fun fw=>?_)
 ·refine .r 3<|.bp ((((BA ae.disk ae.store).length):Int) > 0) (fun fz=>?_) (fun fz=>?_)
  ·refine .r 1<|.d<|.ct<|.g<|.r 1<|RG.sub (t:=37) (lo:=some (vI 1)) (hi:=none) J 1 ((BA ae.disk ae.store).length) AA AA (.inr ⟨_,_,rfl,by omega⟩) (.inl ⟨rfl,rfl⟩) AB AB fun ga gb az=>?_
   have io:=az.len; have ip:=az.max
   refine .r 1<|.d<|.s ?_
   replace E:=E.Ah
   replace aa:=aa.Ah
   replace ab:=ab.Ah
   replace ac:=ac.Ah
   replace J:=J.Ah
   replace az:=az.Ah
   have fA:Cov (mtb [ai,af,ag] aC.heap.size) aC af:=⟨.inl (.inl AE)⟩
   have dD:Cov (mtb [ai,af,ag] aC.heap.size) aC ag:=⟨.inl (.inl AF)⟩
   have fB:Gb (al+1) aC.heap.size:=C.lt
   refine .gd (mtb [ai,af,ag] aC.heap.size) 12 fun ky dE=>?_
   replace ⟨W,E,aF,aa,ab,ac,C,J,az,O⟩:=(se [al,ai,ag,af] dE).g10 W E aF aa ab ac C J az O
   refine .r [0]<|.ln 1 C (Ax (all_cons aJ (all_cons aI (all_cons aG all_nil))) fB)<|.r [2,3,5]<|.go 4<|.cl (fun ey bB=>AZ 6 (aF.ext bB) ((E.BB AF).ext bB) AB (w:=ey) (F:=all)) ?_
   intro ey bB
   replace ⟨W,E,aF,aa,ab,ac,C,J,az,O⟩:=(se [al,ai,ag,af] bB).g10 W E aF aa ab ac C J az O
   rintro kz kA ⟨⟨dF,rfl,iq⟩,kB,ir,fC,ci⟩
   have hkeep_:=ci
   replace ⟨W,E,aa,ab,ac,C,J,az,O⟩:=(so [al,ai,ag,af] ci).g9 W E aa ab ac C J az O
   refine ⟨Chg.toS hkeep_ (Cov.toS dD),?_⟩
   refine .go 6<|.cl (fun ez bC=>AZ 24 (fC.ext bC) ((E.BB AF).ext bC) AB (w:=ez) (F:=all)) ?_
   intro ez bC
   replace ⟨W,E,aa,ab,ac,C,J,az,O⟩:=(se [al,ai,ag,af] bC).g9 W E aa ab ac C J az O
   rintro kC kD ⟨⟨bd,rfl,iu⟩,kE,iw,iy,cj⟩
   have hkeep_:=cj
   replace ⟨W,E,aa,ab,ac,C,J,az,O⟩:=(so [al,ai,ag,af] cj).g9 W E aa ab ac C J az O
   refine ⟨Chg.toS hkeep_ (Cov.toS dD),?_⟩
   have iz:=FH (a:=bd) (n:=23) AB AB
   refine GA.quo (i:=7) (t:=3) (a:=bd) (b:=23) AA AA AB AB<|GA.int (i:=8) ((Int.tdiv bd 23) * 7) AA AB<|GA.int (i:=9) (dF - ((Int.tdiv bd 23) * 7)) AA AB<|.go 10<|GE.CK (t':=27) (o:=0) (v:=.agg #[.slice ao ae.disk.files.length aq,.slice ar ae.disk.list.length au,.slice av ae.disk.names.length aw,vI ae.disk.next]) [.slice ao ae.disk.files.length aq,.slice ar ae.disk.list.length au,.slice av ae.disk.names.length aw,vI ae.disk.next] W AA AA AA fun kF dG=>?_
   replace ⟨W,E,aa,ab,ac,C,J,az,O⟩:=(se [al,ai,ag,af] dG).g9 W E aa ab ac C J az O
   intro kG ck cm fD
   have hkeep_:=Chg.toS ck (Cov.toS fA)
   replace ⟨E,aa,ab,ac,C,J,az,O⟩:=(so [al,ai,ag,af] ck).g8 E aa ab ac C J az O
   refine ⟨hkeep_,?_⟩
   refine .r [11]<|.d fun kH dH=>?_
   replace ⟨cm,E,aa,ab,ac,C,J,az,O⟩:=(se [al,ai,ag,af] dH).g9 cm E aa ab ac C J az O
   replace E:=E.AU
   replace aa:=aa.AU
   replace ab:=ab.AU
   replace ac:=ac.AU
   replace J:=J.AU
   replace az:=az.AU
   exact .r 1<|.d<|T.Hc (v:=.agg #[.slice ao ae.disk.files.length aq,.slice ar ae.disk.list.length au,.slice av ae.disk.names.length aw,vI ae.disk.next]) (v':=.slice ga ((BA ae.disk ae.store).length - 1) gb) (v'':=vI (dF - ((Int.tdiv bd 23) * 7))) AA Tryz.func22 Tryz.results22 (Bf.cell (ad:=⟨af,0,none⟩) AA ((cm.has 0 [.slice ao ae.disk.files.length aq,.slice ar ae.disk.list.length au,.slice av ae.disk.names.length aw,vI ae.disk.next] AA).EW AA)) (Bf.tmp AA) (Bf.tmp AA) ⟨⟨(ae.disk:Dsk),((((BA ae.disk ae.store).take ((BA ae.disk ae.store).length)).drop 1):List Stp),(dF - ((Int.tdiv bd 23) * 7):Int),⟨_,_,(Ic rfl rfl (congrArg (Value.int .i64) (by rfl))),⟨_,rfl,⟨_,_,_,_,_,_,_,_,_,rfl,aa.w1,ab.w1,ac.w1⟩⟩,(az.vl (by rfl) (fun _ _ h=>h.1))⟩,(by (have q1:WG _:=‹_›; exact ⟨q1.2,fun hk=>by exact (Cu q1.2 q1.1).2,by omega⟩))⟩,O⟩
  refine .r 1<|.d<|.cf<|.sk<|.s ?_
  replace E:=E.Ah
  replace aa:=aa.Ah
  replace ab:=ab.Ah
  replace ac:=ac.Ah
  replace J:=J.Ah
  have fE:Cov (mtb [ai,af,ag] aC.heap.size) aC af:=⟨.inl (.inl AE)⟩
  have dI:Cov (mtb [ai,af,ag] aC.heap.size) aC ag:=⟨.inl (.inl AF)⟩
  have fF:Gb (al+1) aC.heap.size:=C.lt
  refine .gd (mtb [ai,af,ag] aC.heap.size) 12 fun kI dJ=>?_
  replace ⟨W,E,aF,aa,ab,ac,C,J,O⟩:=(se [al,ai,ag,af] dJ).g9 W E aF aa ab ac C J O
  refine .r [0]<|.ln 1 C (Ax (all_cons aJ (all_cons aI (all_cons aG all_nil))) fF)<|.r [2,3,5]<|.go 4<|.cl (fun eA bD=>AZ 6 (aF.ext bD) ((E.BB AF).ext bD) AB (w:=eA) (F:=all)) ?_
  intro eA bD
  replace ⟨W,E,aF,aa,ab,ac,C,J,O⟩:=(se [al,ai,ag,af] bD).g9 W E aF aa ab ac C J O
  rintro kJ kK ⟨⟨dK,rfl,iA⟩,kL,iB,fG,co⟩
  have hkeep_:=co
  replace ⟨W,E,aa,ab,ac,C,J,O⟩:=(so [al,ai,ag,af] co).g8 W E aa ab ac C J O
  refine ⟨Chg.toS hkeep_ (Cov.toS dI),?_⟩
  refine .go 6<|.cl (fun eB bE=>AZ 24 (fG.ext bE) ((E.BB AF).ext bE) AB (w:=eB) (F:=all)) ?_
  intro eB bE
  replace ⟨W,E,aa,ab,ac,C,J,O⟩:=(se [al,ai,ag,af] bE).g8 W E aa ab ac C J O
  rintro kM kN ⟨⟨bg,rfl,iC⟩,kO,iD,iE,cp⟩
  have hkeep_:=cp
  replace ⟨W,E,aa,ab,ac,C,J,O⟩:=(so [al,ai,ag,af] cp).g8 W E aa ab ac C J O
  refine ⟨Chg.toS hkeep_ (Cov.toS dI),?_⟩
  have iF:=FH (a:=bg) (n:=23) AB AB
  refine GA.quo (i:=7) (t:=3) (a:=bg) (b:=23) AA AA AB AB<|GA.int (i:=8) ((Int.tdiv bg 23) * 7) AA AB<|GA.int (i:=9) (dK - ((Int.tdiv bg 23) * 7)) AA AB<|.go 10<|GE.CK (t':=27) (o:=0) (v:=.agg #[.slice ao ae.disk.files.length aq,.slice ar ae.disk.list.length au,.slice av ae.disk.names.length aw,vI ae.disk.next]) [.slice ao ae.disk.files.length aq,.slice ar ae.disk.list.length au,.slice av ae.disk.names.length aw,vI ae.disk.next] W AA AA AA fun kP dL=>?_
  replace ⟨W,E,aa,ab,ac,C,J,O⟩:=(se [al,ai,ag,af] dL).g8 W E aa ab ac C J O
  intro kQ cq cr fH
  have hkeep_:=Chg.toS cq (Cov.toS fE)
  replace ⟨E,aa,ab,ac,C,J,O⟩:=(so [al,ai,ag,af] cq).g7 E aa ab ac C J O
  refine ⟨hkeep_,?_⟩
  refine .r [11]<|.d fun kR dM=>?_
  replace ⟨cr,E,aa,ab,ac,C,J,O⟩:=(se [al,ai,ag,af] dM).g8 cr E aa ab ac C J O
  replace E:=E.AU
  replace aa:=aa.AU
  replace ab:=ab.AU
  replace ac:=ac.AU
  replace J:=J.AU
  exact .r 1<|.d<|T.Hc (v:=.agg #[.slice ao ae.disk.files.length aq,.slice ar ae.disk.list.length au,.slice av ae.disk.names.length aw,vI ae.disk.next]) (v':=.slice dW ((BA ae.disk ae.store).length) dX) (v'':=vI (dK - ((Int.tdiv bg 23) * 7))) AA Tryz.func22 Tryz.results22 (Bf.cell (ad:=⟨af,0,none⟩) AA ((cr.has 0 [.slice ao ae.disk.files.length aq,.slice ar ae.disk.list.length au,.slice av ae.disk.names.length aw,vI ae.disk.next] AA).EW AA)) (Bf.tmp AA) (Bf.tmp AA) ⟨⟨(ae.disk:Dsk),(BA ae.disk ae.store:List Stp),(dK - ((Int.tdiv bg 23) * 7):Int),⟨_,_,(Ic rfl rfl (congrArg (Value.int .i64) (by rfl))),⟨_,rfl,⟨_,_,_,_,_,_,_,_,_,rfl,aa.w1,ab.w1,ac.w1⟩⟩,(J.vl (by rfl) (fun _ _ h=>h.1))⟩,(by (have q1:WG _:=‹_›; exact ⟨q1.2,fun hk=>by exact (Cu q1.2 q1.1).1,by omega⟩))⟩,O⟩
 refine .r 5<|.d<|.cf<|.sk<|.s ?_
 replace E:=E.Ah
 replace aa:=aa.Ah
 replace ab:=ab.Ah
 replace ac:=ac.Ah
 replace J:=J.Ah
 have fI:Cov (mtb [ai,af,ag] aC.heap.size) aC af:=⟨.inl (.inl AE)⟩
 have dN:Cov (mtb [ai,af,ag] aC.heap.size) aC ag:=⟨.inl (.inl AF)⟩
 have fJ:Gb (al+1) aC.heap.size:=C.lt
 refine .gd (mtb [ai,af,ag] aC.heap.size) 12 fun kS dO=>?_
 replace ⟨W,E,aF,aa,ab,ac,C,J,O⟩:=(se [al,ai,ag,af] dO).g9 W E aF aa ab ac C J O
 refine .r [0]<|.ln 1 C (Ax (all_cons aJ (all_cons aI (all_cons aG all_nil))) fJ)<|.r [2,3,5]<|.go 4<|.cl (fun eC bF=>AZ 6 (aF.ext bF) ((E.BB AF).ext bF) AB (w:=eC) (F:=all)) ?_
 intro eC bF
 replace ⟨W,E,aa,ab,ac,J,O⟩:=(se [al,ai,ag,af] bF).g7 W E aa ab ac J O
 rintro kT kU ⟨⟨dP,rfl,iG⟩,kV,iH,fK,cu⟩
 have hkeep_:=cu
 replace ⟨W,E,aa,ab,ac,J,O⟩:=(so [al,ai,ag,af] cu).g7 W E aa ab ac J O
 refine ⟨Chg.toS hkeep_ (Cov.toS dN),?_⟩
 refine .go 6<|.cl (fun eD bG=>AZ 24 (fK.ext bG) ((E.BB AF).ext bG) AB (w:=eD) (F:=all)) ?_
 intro eD bG
 replace ⟨W,aa,ab,ac,J,O⟩:=(se [al,ai,ag,af] bG).g6 W aa ab ac J O
 rintro kW kX ⟨⟨bh,rfl,iI⟩,kY,iJ,iK,cv⟩
 have hkeep_:=cv
 replace ⟨W,aa,ab,ac,J,O⟩:=(so [al,ai,ag,af] cv).g6 W aa ab ac J O
 refine ⟨Chg.toS hkeep_ (Cov.toS dN),?_⟩
 have iL:=FH (a:=bh) (n:=23) AB AB
 refine GA.quo (i:=7) (t:=3) (a:=bh) (b:=23) AA AA AB AB<|GA.int (i:=8) ((Int.tdiv bh 23) * 7) AA AB<|GA.int (i:=9) (dP - ((Int.tdiv bh 23) * 7)) AA AB<|.go 10<|GE.CK (t':=27) (o:=0) (v:=.agg #[.slice ao ae.disk.files.length aq,.slice ar ae.disk.list.length au,.slice av ae.disk.names.length aw,vI ae.disk.next]) [.slice ao ae.disk.files.length aq,.slice ar ae.disk.list.length au,.slice av ae.disk.names.length aw,vI ae.disk.next] W AA AA AA fun kZ dQ=>?_
 replace ⟨aa,ab,ac,J,O⟩:=(se [al,ai,ag,af] dQ).g5 aa ab ac J O
 intro k5 cw cx fL
 have hkeep_:=Chg.toS cw (Cov.toS fI)
 replace ⟨aa,ab,ac,J,O⟩:=(so [al,ai,ag,af] cw).g5 aa ab ac J O
 refine ⟨hkeep_,?_⟩
 refine .r [11]<|.d fun k6 dR=>?_
 replace ⟨cx,aa,ab,ac,J,O⟩:=(se [al,ai,ag,af] dR).g6 cx aa ab ac J O
 replace aa:=aa.AU
 replace ab:=ab.AU
 replace ac:=ac.AU
 replace J:=J.AU
 exact .r 1<|.d<|T.Hc (v:=.agg #[.slice ao ae.disk.files.length aq,.slice ar ae.disk.list.length au,.slice av ae.disk.names.length aw,vI ae.disk.next]) (v':=.slice dW ((BA ae.disk ae.store).length) dX) (v'':=vI (dP - ((Int.tdiv bh 23) * 7))) AA Tryz.func22 Tryz.results22 (Bf.cell (ad:=⟨af,0,none⟩) AA ((cx.has 0 [.slice ao ae.disk.files.length aq,.slice ar ae.disk.list.length au,.slice av ae.disk.names.length aw,vI ae.disk.next] AA).EW AA)) (Bf.tmp AA) (Bf.tmp AA) ⟨⟨(ae.disk:Dsk),(BA ae.disk ae.store:List Stp),(dP - ((Int.tdiv bh 23) * 7):Int),⟨_,_,(Ic rfl rfl (congrArg (Value.int .i64) (by rfl))),⟨_,rfl,⟨_,_,_,_,_,_,_,_,_,rfl,aa.w1,ab.w1,ac.w1⟩⟩,(J.vl (by rfl) (fun _ _ h=>h.1))⟩,(by (have q1:WG _:=‹_›; exact ⟨q1.2,fun hk=>by exact (Cu q1.2 q1.1).1,by omega⟩))⟩,O⟩
end Go.Proofs.YtganlmloonielaaGreat
namespace Go.Proofs.YtganlmloonielaaGreat
set_option maxRecDepth 100000
set_option maxHeartbeats 4000000
theorem JD (code:List UInt8) (more:List UInt8) {w:World} {F:Nat→Prop} {a1:Option Addr} {n1 c1:Nat} (h1:RepS w F a1 n1 c1 code) {a2:Option Addr} {n2 c2:Nat} (h2:RepS w F a2 n2 c2 more)  : Calls Tryz.prog 5 [.slice a1 n1 c1,.slice a2 n2 c2].toArray w (As fun rv w'=>rv=.bool (true)∧Ext w w'):=by
 refine goT Tryz.func5 ?_
 obtain ⟨rfl,d7,h1⟩:=h1.tp
 obtain ⟨rfl,d8,h2⟩:=h2.tp
 refine .s<|.g<|.r 1<|.d<|.s<|.s<|.g<|.r 2<|.bp ((code.length:Int) > 1048576) (fun cS=>.r 5<|.d<|.ct<|.s<|.g<|.r 1<|.d<|.rt Tryz.func5 Tryz.results5 (.bool true) ⟨(congrArg Value.bool (by rfl)),(Chg.refl _ _)⟩) fun cS=>.r 3<|.bp ((more.length:Int) > 1048576) (fun cT=>.r 1<|.d<|.ct<|.s<|.g<|.r 1<|.d<|.rt Tryz.func5 Tryz.results5 (.bool true) ⟨(congrArg Value.bool (by rfl)),(Chg.refl _ _)⟩) fun cT=>.r 1<|.d<|.cf<|.sk<|.s<|.g<|.r 1<|.cl (IQ code h1 (w:=w) (F:=nin (fo F w.heap.size) [])) ?_
 rintro gq gr ⟨⟨W,C,ae,⟨gs,gt,rfl,⟨_,rfl,⟨dB,gu,dC,dD,gv,dE,dF,gw,dG,rfl,aa,ab,ac⟩⟩,⟨gx,gy,rfl,af⟩⟩,d9⟩,ce⟩
 have aZ:∀ q_∈([]:List Nat),q_< w.heap.size:=all_nil
 have bG:Gb w.heap.size w.heap.size:=(Nat.le_refl _)
 have J:=ce
 replace aa:=RepS.Aa (M:=[]) aa aZ bG
 have ec:=aa.max
 replace ab:=RepS.Aa (M:=[]) ab aZ bG
 have ed:=ab.max
 replace ac:=RepS.Aa (M:=[]) ac aZ bG
 have ee:=ac.max
 replace af:=RepS.Aa (M:=[]) af aZ bG
 have ef:=af.max
 have cU:=aa.len
 subst cU
 have cV:=ab.len
 subst cV
 have cW:=ac.len
 subst cW
 refine .r 4<|.np 27 [.slice none 0 0,.slice none 0 0,.slice none 0 0,vI 0] fun aj gz bJ cg cX cY=>?_
 have eg:=J.cn bJ
 replace ⟨aa,ab,ac,af,J⟩:=(sn [] cg bJ).g5 aa ab ac af J
 refine .sc [.slice dB W.files.length dC,.slice dD W.list.length dE,.slice dF W.names.length dG,vI W.next] cX fun cZ ci O c7=>?_
 replace ⟨aa,ab,ac,af,J⟩:=(so [aj] ci).g5 aa ab ac af J
 refine .r 2<|.d<|.s<|.g<|.ln O<|.r 2<|.cl (Cl W C ae aa ab ac af (by have q1:DD W∧(Af W=true→StW W C)∧_:=‹_›; with_reducible exact q1.1) (by have q1:DD W∧(Af W=true→StW W C)∧_:=‹_›; with_reducible exact q1.2.1) (w:=cZ) (F:=nin (fo F w.heap.size) [aj])) ?_
 rintro gA gC ⟨⟨_,rfl,⟨dH,gD,dI,dJ,gE,dK,dL,gF,dM,rfl,ag,ah,ai⟩⟩,cj⟩
 have bH:=al1 O.lt
 have bK:Gb w.heap.size cZ.heap.size:=J.size
 replace ⟨aa,ab,ac,af,O,J⟩:=(se [aj] cj).g6 aa ab ac af O J
 replace ag:=RepS.Aa (M:=[aj]) ag bH bK
 have eh:=ag.max
 replace ah:=RepS.Aa (M:=[aj]) ah bH bK
 have ej:=ah.max
 replace ai:=RepS.Aa (M:=[aj]) ai bH bK
 have ek:=ai.max
 have c8:=ag.len
 subst c8
 have c9:=ah.len
 subst c9
 have da:=ai.len
 subst da
 refine .np 27 [.slice none 0 0,.slice none 0 0,.slice none 0 0,vI 0] fun ak gG bI ck db de=>?_
 have en:=AS bI O.lt
 have dN:=J.cn bI
 replace ⟨aa,ab,ac,af,O,ag,ah,ai,J⟩:=(sn [aj] ck bI).g9 aa ab ac af O ag ah ai J
 refine .sc [.slice dH (((BP W C ae).files).length) dI,.slice dJ (((BP W C ae).list).length) dK,.slice dL (((BP W C ae).names).length) dM,vI ((BP W C ae).next)] db fun et bL E co=>?_
 replace ⟨aa,ab,ac,af,O,ag,ah,ai,J⟩:=(so [ak,aj] bL).g9 aa ab ac af O ag ah ai J
 refine .d<|.s<|.s<|.gd nil 5 fun ey bM=>?_
 replace ⟨aa,ab,ac,af,O,ag,ah,ai,E,J⟩:=(se [ak,aj] bM).g10 aa ab ac af O ag ah ai E J
 refine .ln 0 E id<|.ln 1 O id<|.r [2,3]<|.go 4<|.cl (fun bN av=>Cv W C ae (aa.ta.ext av) (ab.ta.ext av) (ac.ta.ext av) (af.ta.ext av) (by have q1:DD W∧(Af W=true→StW W C)∧_:=‹_›; with_reducible exact q1.1) (by have q1:DD W∧(Af W=true→StW W C)∧_:=‹_›; with_reducible exact q1.2.1) (w:=bN) (F:=all)) ?_
 intro bN av
 replace ⟨aa,ab,ac,af,O,ag,ah,ai,E,J⟩:=(se [ak,aj] av).g10 aa ab ac af O ag ah ai E J
 rintro ez eA ⟨⟨_,rfl,⟨eB,eC,eD,eE,eF,eG,eH,eI,eJ,rfl,aD,aE,aF⟩⟩,bg⟩
 have aS:=al2 E.lt O.lt
 have bh:Gb w.heap.size bN.heap.size:=J.size
 have hkeep_:=bg
 replace ⟨aa,ab,ac,af,O,ag,ah,ai,E,J⟩:=(se [ak,aj] bg).g10 aa ab ac af O ag ah ai E J
 refine ⟨Ext.chg hkeep_,?_⟩
 have aD:=aD.fr aS bh
 replace aD:=aD.base (G':=fo F w.heap.size) (fun _ _ h=>.inr h)
 have aE:=aE.fr aS bh
 replace aE:=aE.base (G':=fo F w.heap.size) (fun _ _ h=>.inr h)
 have aF:=aF.fr aS bh
 replace aF:=aF.base (G':=fo F w.heap.size) (fun _ _ h=>.inr h)
 have cp:=aD.len
 subst cp
 have cq:=aE.len
 subst cq
 have cr:=aF.len
 subst cr
 refine .d fun df bi=>?_
 replace ⟨aa,ab,ac,af,O,ag,ah,ai,E,aD,aE,aF⟩:=(se [ak,aj] bi).g12 aa ab ac af O ag ah ai E aD aE aF
 replace J:=(se [ak,aj] bi).g1 J
 refine .cl (By (BP W C ae) (BP W C ae) ag.ta ah.ta ai.ta aD.ta aE.ta aF.ta (w:=df) (F:=all)) ?_
 rintro eK dg ⟨rfl,bO⟩
 replace ⟨aa,ab,ac,af,O,ag,ah,ai,E,J⟩:=(se [ak,aj] bO).g10 aa ab ac af O ag ah ai E J
 rw [show (((BP W C ae)==(BP W C ae)))=true from beq_self_eq_true _]
 refine .r 2<|.ln O<|.cl (CF W aa.ta ab.ta ac.ta (by have q1:DD W∧(Af W=true→StW W C)∧_:=‹_›; with_reducible exact q1.1) (w:=dg) (F:=all)) ?_
 rintro eL dh ⟨rfl,bP⟩
 replace ⟨aa,ab,ac,af,O,ag,ah,ai,E,J⟩:=(se [ak,aj] bP).g10 aa ab ac af O ag ah ai E J
 cases dO:(Af W)
 ·refine .r 11<|.d<|.ct<|.s<|.gd nil 5 fun eM bQ=>?_
  replace ⟨aa,ab,ac,af,O,ag,ah,ai,E,J⟩:=(se [ak,aj] bQ).g10 aa ab ac af O ag ah ai E J
  refine .ln 0 E id<|.ln 1 O id<|.r [2,3]<|.go 4<|.cl (fun bR aw=>Cv W C ae (aa.ta.ext aw) (ab.ta.ext aw) (ac.ta.ext aw) (af.ta.ext aw) (by have q1:DD W∧(Af W=true→StW W C)∧_:=‹_›; with_reducible exact q1.1) (by have q1:DD W∧(Af W=true→StW W C)∧_:=‹_›; with_reducible exact q1.2.1) (w:=bR) (F:=all)) ?_
  intro bR aw
  replace ⟨aa,ab,ac,af,O,ag,ah,ai,E,J⟩:=(se [ak,aj] aw).g10 aa ab ac af O ag ah ai E J
  rintro eN eO ⟨⟨_,rfl,⟨eP,eQ,eR,eS,eT,eU,eV,eW,eX,rfl,aG,aH,aI⟩⟩,bj⟩
  have aT:=al2 E.lt O.lt
  have bk:Gb w.heap.size bR.heap.size:=J.size
  have hkeep_:=bj
  replace ⟨aa,ab,ac,af,O,ag,ah,ai,E,J⟩:=(se [ak,aj] bj).g10 aa ab ac af O ag ah ai E J
  refine ⟨Ext.chg hkeep_,?_⟩
  have aG:=aG.fr aT bk
  replace aG:=aG.base (G':=fo F w.heap.size) (fun _ _ h=>.inr h)
  have aH:=aH.fr aT bk
  replace aH:=aH.base (G':=fo F w.heap.size) (fun _ _ h=>.inr h)
  have aI:=aI.fr aT bk
  replace aI:=aI.base (G':=fo F w.heap.size) (fun _ _ h=>.inr h)
  have cu:=aG.len
  subst cu
  have cv:=aH.len
  subst cv
  have cw:=aI.len
  subst cw
  refine .d fun dj bm=>?_
  replace ⟨aa,ab,ac,af,O,ag,ah,ai,E,aG,aH,aI⟩:=(se [ak,aj] bm).g12 aa ab ac af O ag ah ai E aG aH aI
  replace J:=(se [ak,aj] bm).g1 J
  refine .cl (By (BP W C ae) (BP W C ae) ag.ta ah.ta ai.ta aG.ta aH.ta aI.ta (w:=dj) (F:=all)) ?_
  rintro eY eZ ⟨rfl,bS⟩
  replace ⟨aa,ab,ac,af,O,ag,ah,ai,E,J⟩:=(se [ak,aj] bS).g10 aa ab ac af O ag ah ai E J
  rw [show (((BP W C ae)==(BP W C ae)))=true from beq_self_eq_true _]
  exact .r 1<|.d<|.rt Tryz.func5 Tryz.results5 (.bool true) ⟨(congrArg Value.bool (by rfl)),J⟩
 refine .r 4<|.bp (ae< 0) (fun cx=>?_) (fun cx=>?_)
 ·refine .r 6<|.d<|.ct<|.s<|.gd nil 5 fun e7 bT=>?_
  replace ⟨aa,ab,ac,af,O,ag,ah,ai,E,J⟩:=(se [ak,aj] bT).g10 aa ab ac af O ag ah ai E J
  refine .ln 0 E id<|.ln 1 O id<|.r [2,3]<|.go 4<|.cl (fun bU ax=>Cv W C ae (aa.ta.ext ax) (ab.ta.ext ax) (ac.ta.ext ax) (af.ta.ext ax) (by have q1:DD W∧(Af W=true→StW W C)∧_:=‹_›; with_reducible exact q1.1) (by have q1:DD W∧(Af W=true→StW W C)∧_:=‹_›; with_reducible exact q1.2.1) (w:=bU) (F:=all)) ?_
  intro bU ax
  replace ⟨aa,ab,ac,af,O,ag,ah,ai,E,J⟩:=(se [ak,aj] ax).g10 aa ab ac af O ag ah ai E J
  rintro e8 fa ⟨⟨_,rfl,⟨fb,fc,fd,fe,ff,fg,fh,fi,fj,rfl,aJ,aK,aL⟩⟩,bn⟩
  have aU:=al2 E.lt O.lt
  have bo:Gb w.heap.size bU.heap.size:=J.size
  have hkeep_:=bn
  replace ⟨aa,ab,ac,af,O,ag,ah,ai,E,J⟩:=(se [ak,aj] bn).g10 aa ab ac af O ag ah ai E J
  refine ⟨Ext.chg hkeep_,?_⟩
  have aJ:=aJ.fr aU bo
  replace aJ:=aJ.base (G':=fo F w.heap.size) (fun _ _ h=>.inr h)
  have aK:=aK.fr aU bo
  replace aK:=aK.base (G':=fo F w.heap.size) (fun _ _ h=>.inr h)
  have aL:=aL.fr aU bo
  replace aL:=aL.base (G':=fo F w.heap.size) (fun _ _ h=>.inr h)
  have cy:=aJ.len
  subst cy
  have cz:=aK.len
  subst cz
  have cA:=aL.len
  subst cA
  refine .d fun dm bq=>?_
  replace ⟨aa,ab,ac,af,O,ag,ah,ai,E,aJ,aK,aL⟩:=(se [ak,aj] bq).g12 aa ab ac af O ag ah ai E aJ aK aL
  replace J:=(se [ak,aj] bq).g1 J
  refine .cl (By (BP W C ae) (BP W C ae) ag.ta ah.ta ai.ta aJ.ta aK.ta aL.ta (w:=dm) (F:=all)) ?_
  rintro fk fm ⟨rfl,bV⟩
  replace ⟨aa,ab,ac,af,O,ag,ah,ai,E,J⟩:=(se [ak,aj] bV).g10 aa ab ac af O ag ah ai E J
  rw [show (((BP W C ae)==(BP W C ae)))=true from beq_self_eq_true _]
  exact .r 1<|.d<|.rt Tryz.func5 Tryz.results5 (.bool true) ⟨(congrArg Value.bool (by rfl)),J⟩
 refine .r 2<|.ln E<|.cl (Bs (BP W C ae) ag.ta ah.ta ai.ta (by have q1:DD W∧(Af W=true→StW W C)∧_:=‹_›; with_reducible exact (ER q1.1 q1.2.1)) (w:=dh) (F:=all)) ?_
 rintro fp cm ⟨rfl,bW⟩
 replace ⟨aa,ab,ac,af,O,ag,ah,ai,E,J⟩:=(se [ak,aj] bW).g10 aa ab ac af O ag ah ai E J
 cases dP:(Af (BP W C ae))
 ·refine .r 2<|.d<|.ct<|.s<|.gd nil 5 fun fq bX=>?_
  replace ⟨aa,ab,ac,af,O,ag,ah,ai,E,J⟩:=(se [ak,aj] bX).g10 aa ab ac af O ag ah ai E J
  refine .ln 0 E id<|.ln 1 O id<|.r [2,3]<|.go 4<|.cl (fun bY ay=>Cv W C ae (aa.ta.ext ay) (ab.ta.ext ay) (ac.ta.ext ay) (af.ta.ext ay) (by have q1:DD W∧(Af W=true→StW W C)∧_:=‹_›; with_reducible exact q1.1) (by have q1:DD W∧(Af W=true→StW W C)∧_:=‹_›; with_reducible exact q1.2.1) (w:=bY) (F:=all)) ?_
  intro bY ay
  replace ⟨aa,ab,ac,af,O,ag,ah,ai,E,J⟩:=(se [ak,aj] ay).g10 aa ab ac af O ag ah ai E J
  rintro ft fu ⟨⟨_,rfl,⟨fv,fw,fz,fA,fB,fC,fD,fE,fF,rfl,aM,aN,aO⟩⟩,br⟩
  have aV:=al2 E.lt O.lt
  have bt:Gb w.heap.size bY.heap.size:=J.size
  have hkeep_:=br
  replace ⟨aa,ab,ac,af,O,ag,ah,ai,E,J⟩:=(se [ak,aj] br).g10 aa ab ac af O ag ah ai E J
  refine ⟨Ext.chg hkeep_,?_⟩
  have aM:=aM.fr aV bt
  replace aM:=aM.base (G':=fo F w.heap.size) (fun _ _ h=>.inr h)
  have aN:=aN.fr aV bt
  replace aN:=aN.base (G':=fo F w.heap.size) (fun _ _ h=>.inr h)
  have aO:=aO.fr aV bt
  replace aO:=aO.base (G':=fo F w.heap.size) (fun _ _ h=>.inr h)
  have cB:=aM.len
  subst cB
  have cC:=aN.len
  subst cC
  have cD:=aO.len
  subst cD
  refine .d fun dp bu=>?_
  replace ⟨aa,ab,ac,af,O,ag,ah,ai,E,aM,aN,aO⟩:=(se [ak,aj] bu).g12 aa ab ac af O ag ah ai E aM aN aO
  replace J:=(se [ak,aj] bu).g1 J
  refine .cl (By (BP W C ae) (BP W C ae) ag.ta ah.ta ai.ta aM.ta aN.ta aO.ta (w:=dp) (F:=all)) ?_
  rintro fG fH ⟨rfl,bZ⟩
  replace ⟨aa,ab,ac,af,O,ag,ah,ai,E,J⟩:=(se [ak,aj] bZ).g10 aa ab ac af O ag ah ai E J
  rw [show (((BP W C ae)==(BP W C ae)))=true from beq_self_eq_true _]
  exact .r 1<|.d<|.rt Tryz.func5 Tryz.results5 (.bool true) ⟨(congrArg Value.bool (by rfl)),J⟩
 refine .r 2<|.d<|.cf<|.sk<|.s<|.g<|.r 6<|RG.int ((if (C.length:Int)< ae then (C.length:Int) else ae)+1) AA AB<|RG.rem (t:=3) (k:=.i64) (a:=(more.length:Int)) (b:=(if (C.length:Int)< ae then (C.length:Int) else ae)+1) AA (by split <;> omega)<|.r 1<|.d<|.s<|.g<|.ln O<|.r 2<|.cl (Cl W C (Int.tmod (more.length:Int) ((if (C.length:Int)< ae then (C.length:Int) else ae)+1)) aa ab ac af (by have q1:DD W∧(Af W=true→StW W C)∧_:=‹_›; with_reducible exact q1.1) (by have q1:DD W∧(Af W=true→StW W C)∧_:=‹_›; with_reducible exact q1.2.1) (w:=cm) (F:=nin (fo F w.heap.size) [ak,aj])) ?_
 rintro fI fJ ⟨⟨_,rfl,⟨dq,fK,dr,dt,fL,du,dv,fM,dw,rfl,aq,ar,au⟩⟩,b0⟩
 have aW:=al2 E.lt O.lt
 have bv:Gb w.heap.size cm.heap.size:=J.size
 replace ⟨aa,ab,ac,af,O,ag,ah,ai,E,J⟩:=(se [ak,aj] b0).g10 aa ab ac af O ag ah ai E J
 replace aq:=RepS.Aa (M:=[ak,aj]) aq aW bv
 have dQ:=aq.max
 replace ar:=RepS.Aa (M:=[ak,aj]) ar aW bv
 have dR:=ar.max
 replace au:=RepS.Aa (M:=[ak,aj]) au aW bv
 have dS:=au.max
 have cE:=aq.len
 subst cE
 have cF:=ar.len
 subst cF
 have cG:=au.len
 subst cG
 refine .np 27 [.slice none 0 0,.slice none 0 0,.slice none 0 0,vI 0] fun am fN az bw cH cI=>?_
 have dT:=AS az O.lt
 have dU:=AS az E.lt
 have dV:=J.cn az
 replace ⟨aa,ab,ac,af,O,ag,ah,ai,E,aq,ar,au⟩:=(sn [ak,aj] bw az).g12 aa ab ac af O ag ah ai E aq ar au
 replace J:=(sn [ak,aj] bw az).g1 J
 refine .sc [.slice dq (((BP W C (Int.tmod (more.length:Int) ((if (C.length:Int)< ae then (C.length:Int) else ae)+1))).files).length) dr,.slice dt (((BP W C (Int.tmod (more.length:Int) ((if (C.length:Int)< ae then (C.length:Int) else ae)+1))).list).length) du,.slice dv (((BP W C (Int.tmod (more.length:Int) ((if (C.length:Int)< ae then (C.length:Int) else ae)+1))).names).length) dw,vI ((BP W C (Int.tmod (more.length:Int) ((if (C.length:Int)< ae then (C.length:Int) else ae)+1))).next)] cH fun dx bz ao cJ=>?_
 replace ⟨aa,ab,ac,af,O,ag,ah,ai,E,aq,ar,au⟩:=(so [am,ak,aj] bz).g12 aa ab ac af O ag ah ai E aq ar au
 replace J:=(so [am,ak,aj] bz).g1 J
 refine .d<|.s<|.s<|.g<|.ln ao<|.cl (Bs (BP W C (Int.tmod (more.length:Int) ((if (C.length:Int)< ae then (C.length:Int) else ae)+1))) aq.ta ar.ta au.ta (by have q1:DD W∧(Af W=true→StW W C)∧_:=‹_›; with_reducible exact (ER q1.1 q1.2.1)) (w:=dx) (F:=all)) ?_
 rintro fO fP ⟨rfl,bA⟩
 replace ⟨aa,ab,ac,af,O,ag,ah,ai,E,aq,ar,au⟩:=(se [am,ak,aj] bA).g12 aa ab ac af O ag ah ai E aq ar au
 replace ⟨ao,J⟩:=(se [am,ak,aj] bA).g2 ao J
 cases dW:(Af (BP W C (Int.tmod (more.length:Int) ((if (C.length:Int)< ae then (C.length:Int) else ae)+1))))
 ·exact .r 1<|.d<|.ct<|.s<|.g<|.r 1<|.d<|.rt Tryz.func5 Tryz.results5 (.bool true) ⟨(congrArg Value.bool (by rfl)),J⟩
 refine .r 1<|.d<|.cf<|.sk<|.s<|.gd nil 15 fun fQ bB=>?_
 replace ⟨aa,ab,ac,af,O,ag,ah,ai,E,aq,ar,au⟩:=(se [am,ak,aj] bB).g12 aa ab ac af O ag ah ai E aq ar au
 replace ⟨ao,J⟩:=(se [am,ak,aj] bB).g2 ao J
 refine .ln 0 ao id<|.r [1,2]<|GA.sub (i:=3) (t:=37) (lo:=some (vI (Int.tmod (more.length:Int) ((if (C.length:Int)< ae then (C.length:Int) else ae)+1)))) (hi:=none) AA af (((Int.tmod (more.length:Int) ((if (C.length:Int)< ae then (C.length:Int) else ae)+1))).toNat) C.length AA AA (.inr ⟨_,_,rfl,by (have q2:=(Kf (n:=more.length) (m:=C.length) (c:=ae) ‹_›); omega)⟩) (.inl ⟨rfl,rfl⟩) (by (have q2:=(Kf (n:=more.length) (m:=C.length) (c:=ae) ‹_›); omega)) AB fun fR fS b6=>?_
 have dX:=b6.len; have dY:=b6.max
 refine .r [4,5]<|GA.int (i:=6) (ae - (Int.tmod (more.length:Int) ((if (C.length:Int)< ae then (C.length:Int) else ae)+1))) AA (by (have q2:=(Kf (n:=more.length) (m:=C.length) (c:=ae) ‹_›); omega))<|.ln 8 E id<|.go 7<|.cl (fun b7 aA=>Cl (BP W C (Int.tmod (more.length:Int) ((if (C.length:Int)< ae then (C.length:Int) else ae)+1))) ((C.take C.length).drop (((Int.tmod (more.length:Int) ((if (C.length:Int)< ae then (C.length:Int) else ae)+1))).toNat)) (ae - (Int.tmod (more.length:Int) ((if (C.length:Int)< ae then (C.length:Int) else ae)+1))) (aq.ext aA) (ar.ext aA) (au.ext aA) (b6.ext aA) (by have q1:DD W∧(Af W=true→StW W C)∧_:=‹_›; with_reducible exact (ER q1.1 q1.2.1)) (by have q1:DD W∧(Af W=true→StW W C)∧_:=‹_›; with_reducible exact (fun _=>WO q1.2.1 (by with_reducible assumption))) (w:=b7) (F:=nin (fo F w.heap.size) [am,ak,aj])) ?_
 intro b7 aA
 replace ⟨aa,ab,ac,af,O,ag,ah,ai,E,ao,J⟩:=(se [am,ak,aj] aA).g11 aa ab ac af O ag ah ai E ao J
 rintro fT fU ⟨⟨_,rfl,⟨fV,fW,fX,fY,fZ,f0,f5,f6,f7,rfl,ba,bc,bd⟩⟩,bC⟩
 have aX:=al3 ao.lt E.lt O.lt
 have bD:Gb w.heap.size b7.heap.size:=J.size
 have hkeep_:=bC
 replace ⟨aa,ab,ac,af,O,ag,ah,ai,E,ao,J⟩:=(se [am,ak,aj] bC).g11 aa ab ac af O ag ah ai E ao J
 refine ⟨Ext.chg hkeep_,?_⟩
 replace ba:=RepS.Aa (M:=[am,ak,aj]) ba aX bD
 have dZ:=ba.max
 replace bc:=RepS.Aa (M:=[am,ak,aj]) bc aX bD
 have d0:=bc.max
 replace bd:=RepS.Aa (M:=[am,ak,aj]) bd aX bD
 have d3:=bd.max
 have cK:=ba.len
 subst cK
 have cL:=bc.len
 subst cL
 have cM:=bd.len
 subst cM
 refine GA.Bz (i:=9) AA (fun dy aB=>By (BP (BP W C (Int.tmod (more.length:Int) ((if (C.length:Int)< ae then (C.length:Int) else ae)+1))) ((C.take C.length).drop (((Int.tmod (more.length:Int) ((if (C.length:Int)< ae then (C.length:Int) else ae)+1))).toNat)) (ae - (Int.tmod (more.length:Int) ((if (C.length:Int)< ae then (C.length:Int) else ae)+1)))) (BP W C ae) (ba.ta.ext aB) (bc.ta.ext aB) (bd.ta.ext aB) (ag.ta.ext aB) (ah.ta.ext aB) (ai.ta.ext aB) (w:=dy) (F:=all)) ?_
 have cN:((BP (BP W C (Int.tmod (more.length:Int) ((if (C.length:Int)< ae then (C.length:Int) else ae)+1))) ((C.take C.length).drop (((Int.tmod (more.length:Int) ((if (C.length:Int)< ae then (C.length:Int) else ae)+1))).toNat)) (ae - (Int.tmod (more.length:Int) ((if (C.length:Int)< ae then (C.length:Int) else ae)+1))))==(BP W C ae))=true:=(by have q1:DD W∧(Af W=true→StW W C)∧_:=‹_›; with_reducible exact (Vw (by with_reducible assumption) (by with_reducible assumption) (Kf (n:=more.length) (m:=C.length) (c:=ae) ‹_›).1 (Kf (n:=more.length) (m:=C.length) (c:=ae) ‹_›).2.1))
 rw [cN]
 refine .r [10]<|.ln 11 O id<|.r [12]<|.ln 14 O id<|.go 13<|.cl (fun b8 aC=>Cl W C 0 (aa.ext aC) (ab.ext aC) (ac.ext aC) (af.ext aC) (by have q1:DD W∧(Af W=true→StW W C)∧_:=‹_›; with_reducible exact q1.1) (by have q1:DD W∧(Af W=true→StW W C)∧_:=‹_›; with_reducible exact q1.2.1) (w:=b8) (F:=nin (fo F w.heap.size) [am,ak,aj])) ?_
 intro b8 aC
 replace ⟨aa,ab,ac,O,E,ao,J⟩:=(se [am,ak,aj] aC).g7 aa ab ac O E ao J
 rintro f8 f9 ⟨⟨_,rfl,⟨ga,gb,gf,gh,gi,gj,gk,gl,gm,rfl,aP,aQ,aR⟩⟩,bE⟩
 have aY:=al3 ao.lt E.lt O.lt
 have bF:Gb w.heap.size b8.heap.size:=J.size
 have hkeep_:=bE
 replace ⟨aa,ab,ac,J⟩:=(se [am,ak,aj] bE).g4 aa ab ac J
 refine ⟨Ext.chg hkeep_,?_⟩
 replace aP:=RepS.Aa (M:=[am,ak,aj]) aP aY bF
 have d4:=aP.max
 replace aQ:=RepS.Aa (M:=[am,ak,aj]) aQ aY bF
 have d5:=aQ.max
 replace aR:=RepS.Aa (M:=[am,ak,aj]) aR aY bF
 have d6:=aR.max
 have cO:=aP.len
 subst cO
 have cP:=aQ.len
 subst cP
 have cQ:=aR.len
 subst cQ
 refine .d fun dz b9=>?_
 replace ⟨aa,ab,ac,aP,aQ,aR,J⟩:=(se [am,ak,aj] b9).g7 aa ab ac aP aQ aR J
 refine .cl (By (BP W C 0) W aP.ta aQ.ta aR.ta aa.ta ab.ta ac.ta (w:=dz) (F:=all)) ?_
 rintro gn gp ⟨rfl,cd⟩
 replace J:=(se [] cd).g1 J
 have cR:((BP W C 0)==W)=true:=(by have q1:DD W∧(Af W=true→StW W C)∧_:=‹_›; with_reducible exact (WQ (by with_reducible assumption)))
 rw [cR]
 exact .r 2<|.d<|.rt Tryz.func5 Tryz.results5 (.bool true) ⟨(congrArg Value.bool (by rfl)),J⟩
end Go.Proofs.YtganlmloonielaaGreat
