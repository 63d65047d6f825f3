/- walks; hints pruned; squeezed -/
import Derived.Test.YtganlmloonielaaGreatFlszW57
set_option linter.unusedVariables false
set_option linter.unusedSimpArgs false
namespace Go.Proofs.YtganlmloonielaaGreat
set_option maxRecDepth 100000
set_option maxHeartbeats 4000000
theorem c_laws_FnStepsOther (code : List UInt8) {w : World} {F : Nat → Prop} {a1 : Option Addr} {n1 c1 : Nat} (h1 : RepS w F a1 n1 c1 code)  : Calls Tryz.prog 3 [.slice a1 n1 c1].toArray w (rets fun rv w' => rv = .bool (true) ∧ Ext w w') := by
 refine goT Tryz.func3 ?_
 obtain ⟨rfl, ga, h1⟩ := h1.tp
 refine .s <| .g <| .r 1 <| .d <| .s <| .s <| .g <| .r 2 <| .bp ((code.length : Int) > 1048576) (fun en => .d <| .ct <| .s <| .g <| .r 1 <| .d <| .rt Tryz.func3 Tryz.results3 (.bool true) ⟨(congrArg Value.bool (by rfl)), (Chg.refl _ _)⟩) fun en => .d <| .cf <| .sk <| .s <| .g <| .r 1 <| .cl (c_spec_DrawStepsFlush code h1 (w := w) (F := nin (fo F w.heap.size) [])) ?_
 rintro im io ⟨⟨au, aj, ⟨ip, iq, rfl, ⟨_, rfl, ⟨e8, ir, fa, fb, iu, fc, fd, iw, fe, rfl, aa, ab, ac⟩⟩, ⟨_, rfl, ⟨de, iy, df, dg, iz, dh, b0, iA, b6, dj, iB, dm, rfl, ae, af, ah, ag⟩⟩⟩, gb⟩, cT⟩
 have aQ : ∀ q_ ∈ ([] : List Nat), q_ < w.heap.size := all_nil
 have aU : Gb w.heap.size w.heap.size := (Nat.le_refl _)
 have C := cT
 replace aa := RepS.mixed' (M := []) aa aQ aU
 have gf := aa.max
 replace ab := RepS.mixed' (M := []) ab aQ aU
 have gh := ab.max
 replace ac := RepS.mixed' (M := []) ac aQ aU
 have gi := ac.max
 replace ae := RepS.mixed' (M := []) ae aQ aU
 have gj := ae.max
 replace af := RepS.mixed' (M := []) af aQ aU
 have gk := af.max
 replace ah := RepS.mixed' (M := []) ah aQ aU
 have gl := ah.max
 replace ag := RepS.mixed' (M := []) ag aQ aU
 have gm := ag.max
 have et := aa.len
 subst et
 have ey := ab.len
 subst ey
 have ez := ac.len
 subst ez
 have eA := ae.len
 subst eA
 have eB := af.len
 subst eB
 have eC := ah.len
 subst eC
 have eD := ag.len
 subst eD
 refine .r 3 <| .np 27 [.slice none 0 0, .slice none 0 0, .slice none 0 0, vI 0] fun ao iC b8 cU bS eE => ?_
 have gn := C.cn b8
 replace ⟨aa, ab, ac, ae, af, ah, ag, C⟩ := (sn [] cU b8).g8 aa ab ac ae af ah ag C
 refine .np 34 [.slice none 0 0, .slice none 0 0, .slice none 0 0, .slice none 0 0] fun aq iD bT cV b9 eF => ?_
 have gp := nb_new bT bS.lt
 have gq := C.cn bT
 replace ⟨aa, ab, ac, ae, af, ah, ag, bS, C⟩ := (sn [ao] cV bT).g9 aa ab ac ae af ah ag bS C
 refine .sc [.slice e8 au.files.length fa, .slice fb au.list.length fc, .slice fd au.names.length fe, vI au.next] bS fun iE cW J eG => ?_
 replace ⟨aa, ab, ac, ae, af, ah, ag, b9, C⟩ := (so [aq, ao] cW).g9 aa ab ac ae af ah ag b9 C
 refine .sc [.slice de aj.idx.names.length df, .slice dg aj.idx.posts.length dh, .slice b0 aj.parts.length b6, .slice dj aj.mem.length dm] b9 fun eH cX E eI => ?_
 replace ⟨aa, ab, ac, ae, af, ah, ag, J, C⟩ := (so [aq, ao] cX).g9 aa ab ac ae af ah ag J C
 refine .d <| .s <| .g <| .ln J <| .ln E <| .cl (c_impl_StepsFlush au aj aa.ta ab.ta ac.ta ae.ta af.ta ah.ta ag.ta (by have q1 : DD au ∧ SD aj := ‹_›; exact q1.1) (by have q1 : DD au ∧ SD aj := ‹_›; exact SG.of q1.2) (w := eH) (F := all)) ?_
 rintro gr eJ ⟨⟨gs, gt, rfl, av⟩, cY⟩
 have cd := al2 E.lt J.lt
 have dp : Gb w.heap.size eH.heap.size := C.size
 replace ⟨aa, ab, ac, ae, af, ah, ag, J, E, C⟩ := (se [aq, ao] cY).g10 aa ab ac ae af ah ag J E C
 have av := av.fr cd dp
 replace av := av.base (G' := fo F w.heap.size) (fun _ _ h => .inr h)
 have ff := av.max
 refine .r 1 <| .d <| .s <| .s <| .g <| .r 1 <| .ln J <| .ln E <| .cl (c_spec_StepsFlushE au aj aa.ta ab.ta ac.ta ae.ta af.ta ah.ta ag.ta (by have q1 : DD au ∧ SD aj := ‹_›; exact q1.1) (by have q1 : DD au ∧ SD aj := ‹_›; exact q1.2) (w := eJ) (F := all)) ?_
 rintro gu eK ⟨⟨gv, gw, rfl, bo⟩, ce⟩
 have cg := al2 E.lt J.lt
 have dq : Gb w.heap.size eJ.heap.size := C.size
 replace ⟨aa, ab, ac, ae, af, ah, ag, J, E, av, C⟩ := (se [aq, ao] ce).g11 aa ab ac ae af ah ag J E av C
 have bo := bo.fr cg dq
 replace bo := bo.base (G' := fo F w.heap.size) (fun _ _ h => .inr h)
 refine .cl (c_laws_lySteps (dflush au aj) (dflush au aj) av.ta bo.ta (w := eK) (F := all)) ?_
 rintro gx cZ ⟨rfl, ci⟩
 replace ⟨aa, ab, ac, ae, af, ah, ag, J, E, av, C⟩ := (se [aq, ao] ci).g11 aa ab ac ae af ah ag J E av C
 rw [show (((dflush au aj) == (dflush au aj))) = true from beq_self_eq_true _]
 refine .r 4 <| .eq (((dflush au aj).length) : Int) 0 (fun dr => ?_) (fun dr => ?_)
 ·refine .r 1 <| .d <| .ct <| .s <| .g <| .r 1 <| .ln J <| .ln E <| .cl (c_spec_StepsFlushE au aj aa.ta ab.ta ac.ta ae.ta af.ta ah.ta ag.ta (by have q1 : DD au ∧ SD aj := ‹_›; exact q1.1) (by have q1 : DD au ∧ SD aj := ‹_›; exact q1.2) (w := cZ) (F := all)) ?_
  rintro gy eL ⟨⟨gz, gA, rfl, bq⟩, cj⟩
  have ck := al2 E.lt J.lt
  have dt : Gb w.heap.size cZ.heap.size := C.size
  replace ⟨aa, ab, ac, ae, af, ah, ag, J, E, av, C⟩ := (se [aq, ao] cj).g11 aa ab ac ae af ah ag J E av C
  have bq := bq.fr ck dt
  replace bq := bq.base (G' := fo F w.heap.size) (fun _ _ h => .inr h)
  refine .cl (c_laws_lySteps (dflush au aj) (dflush au aj) av.ta bq.ta (w := eL) (F := all)) ?_
  rintro gC gD ⟨rfl, cm⟩
  replace ⟨aa, ab, ac, ae, af, ah, ag, J, E, av, C⟩ := (se [aq, ao] cm).g11 aa ab ac ae af ah ag J E av C
  rw [show (((dflush au aj) == (dflush au aj))) = true from beq_self_eq_true _]
  exact .r 1 <| .d <| .rt Tryz.func3 Tryz.results3 (.bool true) ⟨(congrArg Value.bool (by rfl)), C⟩
 refine .r 1 <| .d <| .cf <| .sk <| .s <| .g <| .ln E <| .np 34 [.slice none 0 0, .slice none 0 0, .slice none 0 0, .slice none 0 0] fun ai gE aV co du dv => ?_
 have fg := nb_new aV J.lt
 have fh := nb_new aV E.lt
 have fi := C.cn aV
 replace ⟨aa, ab, ac, ae, af, ah, ag, J, E, av, C⟩ := (sn [aq, ao] co aV).g11 aa ab ac ae af ah ag J E av C
 refine .sc [.slice de aj.idx.names.length df, .slice dg aj.idx.posts.length dh, .slice b0 aj.parts.length b6, .slice dj aj.mem.length dm] du fun aM cp O dw => ?_
 replace ⟨aa, ab, ac, ae, af, ah, ag, J, E, av, C⟩ := (so [ai, aq, ao] cp).g11 aa ab ac ae af ah ag J E av C
 refine .d <| .s <| T.regionJ (X := Nat × Nat × Nat × (Option Addr) × Stp × Nat × (Option Addr) × Nat) (mtb [] aM.heap.size) 9 (fun (aB, bU, aR, bV, aC, bW, bX, bY) => [(3, .pointer (some ⟨ao, 0, none⟩)), (4, .pointer (some ⟨aq, 0, none⟩)), (6, .pointer (some ⟨ai, 0, none⟩)), (39, vS aB (0 + aj.parts.length) bU), (44, vS aR 1 1)]) (fun (aB, bU, aR, bV, aC, bW, bX, bY) ba => Ext aM ba ∧ aM.heap.size ≤ aB ∧ aM.heap.size ≤ aR ∧ Nb aR aB ∧ Own ba aB 42 (nin (fo F w.heap.size) [aB, ai, aq, ao]) (0 + aj.parts.length) bU (([] ++ aj.parts) : List Prt) ∧ Box ba aR 42 [.slice bV aC.part.ids.length bW, .slice bX aC.part.blocks.length bY] ∧ RepS ba (nin (fo F w.heap.size) [aB, ai, aq, ao]) bV aC.part.ids.length bW (aC.part.ids : List Int) ∧ RepS ba (nin (fo F w.heap.size) [aB, ai, aq, ao]) bX aC.part.blocks.length bY (aC.part.blocks : List (List Row)) ∧ (dflush au aj)[0]? = some aC) (by kernel_rfl) (fun eM bi => ?_) ?_
 ·replace aa := aa.into
  replace ab := ab.into
  replace ac := ac.into
  replace ae := ae.into
  replace af := af.into
  replace ah := ah.into
  replace ag := ag.into
  replace av := av.into
  have dx : Gb (aq + 1) aM.heap.size := E.lt
  replace ⟨aa, ab, ac, ae, af, ah, ag, J, E, av, O, C⟩ := (se [ai, aq, ao] bi).g12 aa ab ac ae af ah ag J E av O C
  have W := bi
  have am : Chg (mtb [] aM.heap.size) aM eM := Chg.stepN (Chg.refl (mtb [] aM.heap.size) aM) bi
  refine .r [1] <| .lb 2 E (nS_of all_nil dx) <| .r [4] ?_
  have cq : 0 < (dflush au aj).length := (by omega)
  refine GA.idx (i := 5) 0 (len := (dflush au aj).length) (z := 0) (sz := 6) (by kernel_rfl) (by omega) cq (av.addr (Nat.zero_lt_of_lt cq)) <| .r [6] ?_
  obtain ⟨aH, aI⟩ : ∃ y, (dflush au aj)[0]? = some y := ⟨_, List.getElem?_eq_getElem (by omega)⟩
  have fj := drop_at aI; have eN := List.mem_of_getElem? aI
  obtain ⟨_, ⟨bc, gF, bd, bg, gG, bh, gH, gI, gJ, gK, gL, gM, rfl, ak, al, c7, c8⟩, dy⟩ := av.elem 0 aH aI
  have dz := ak.len
  subst dz
  have fk := ak.max
  have dA := al.len
  subst dA
  have fm := al.max
  have dB := c7.len
  subst dB
  have fp := c7.max
  have dC := c8.len
  subst dC
  have fq := c8.max
  refine .lg 7 2 dy (av.nS (pos_of aI) all_nil) <| .tw 0 8 ?_ ?_
  ·refine .ns 0 42 [] fun gN bw => ?_
   replace ⟨aa, ab, ac, ae, af, ah, ag, J, E, O, ak, al⟩ := (se [ai, aq, ao] bw).g12 aa ab ac ae af ah ag J E O ak al
   replace ⟨C, W, am⟩ := (se [ai, aq, ao] bw).g3 C W am
   intro ax eO aF bz dD dE
   have ft := nb_new aF J.lt
   have fu := nb_new aF E.lt
   have fv := nb_new aF O.lt
   have fw := C.cn aF
   have cr := W.cn aF
   have cu := am.cn aF
   replace ⟨aa, ab, ac, ae, af, ah, ag, J, E, O, ak, al⟩ := (sn [ai, aq, ao] bz aF).g12 aa ab ac ae af ah ag J E O ak al
   replace ⟨C, W, am⟩ := (sn [ai, aq, ao] bz aF).g3 C W am
   have aA : Own (α := Prt) eO ax 42 (nin (fo F w.heap.size) [ax, ai, aq, ao]) 0 0 [] := Own.nil' dD
   refine .tw 3 8 ?_ ?_
   ·refine GE.append (T := 31) (ty := 31) (args := [vS ax 0 0, .slice b0 aj.parts.length b6]) (by kernel_rfl) fun gO bA => ?_
    replace ⟨aa, ab, ac, ae, af, ah, ag, J, E, O, ak, al⟩ := (se [ax, ai, aq, ao] bA).g12 aa ab ac ae af ah ag J E O ak al
    replace ⟨aA, C, W, am⟩ := (se [ax, ai, aq, ao] bA).g4 aA C W am
    obtain ⟨aW, eP, gP, cv, az, aT, bj, dF⟩ := aA.append (P := Tryz.prog) (T := 31) (ty := 31) (by kernel_rfl) (ah.base (fun _ _ h => h.1)) (fun b _ h => own_in (.head _) h) (by have q1 : DD au ∧ SD aj := ‹_›; have q2 := q1.2.np; omega)
    refine ⟨_, _, cv, Chg.toS bj (Cov.toS cu), ?_⟩
    have dG := cov_or aT cr W.size
    replace ⟨aa, ab, ac, ae, af, ah, ag, J, E, O, ak, al⟩ := (sa [ax, ai, aq, ao] bj aT).g12 aa ab ac ae af ah ag J E O ak al
    replace ⟨C, W, am⟩ := (sa [ax, ai, aq, ao] bj aT).g3 C W am
    replace az := az.rn ax
    have fz := az.len; have fA := az.max
    refine .go 8 <| .ns 1 42 [.slice bc aH.part.ids.length bd, .slice bg aH.part.blocks.length bh] fun gQ bB => ?_
    replace ⟨aa, ab, ac, ae, af, ah, ag, J, E, O, ak, al⟩ := (se [aW, ai, aq, ao] bB).g12 aa ab ac ae af ah ag J E O ak al
    replace ⟨az, C, W, am⟩ := (se [aW, ai, aq, ao] bB).g4 az C W am
    intro eQ gR bC bD bE dH
    have dI := nb_new bC az.lt
    have dJ := W.cn bC
    replace ⟨aa, ab, ac, ae, af, ah, ag, J, E, O, ak, al⟩ := (se [aW, ai, aq, ao] bD).g12 aa ab ac ae af ah ag J E O ak al
    replace ⟨az, C, W, am⟩ := (se [aW, ai, aq, ao] bD).g4 az C W am
    refine .d fun gS bF => ?_
    replace ⟨aa, ab, ac, ae, af, ah, ag, J, E, O, ak, al⟩ := (se [aW, ai, aq, ao] bF).g12 aa ab ac ae af ah ag J E O ak al
    replace ⟨az, bE, C, W, am⟩ := (se [aW, ai, aq, ao] bF).g5 az bE C W am
    replace aa := aa.outof
    replace ab := ab.outof
    replace ac := ac.outof
    replace ae := ae.outof
    replace af := af.outof
    replace ah := ah.outof
    replace ag := ag.outof
    replace ak := ak.outof
    replace al := al.outof
    exact ⟨(aW, eP, eQ, bc, aH, bd, bg, bh), ⟨by kernel_rfl, by kernel_rfl, by kernel_rfl, by kernel_rfl, by kernel_rfl, trivial⟩, ⟨W, (cov_ge0 dG), (cov_ge0 dJ), dI, az, bE, ak, al, aI⟩⟩
   refine .ns 1 42 [.slice bc aH.part.ids.length bd, .slice bg aH.part.blocks.length bh] fun gT bG => ?_
   replace ⟨aa, ab, ac, ae, af, ah, ag, J, E, O, ak, al⟩ := (se [ax, ai, aq, ao] bG).g12 aa ab ac ae af ah ag J E O ak al
   replace ⟨aA, C, W, am⟩ := (se [ax, ai, aq, ao] bG).g4 aA C W am
   intro eR gU bH bI aG dK
   have dL := nb_new bH aA.lt
   have dM := W.cn bH
   replace ⟨aa, ab, ac, ae, af, ah, ag, J, E, O, ak, al⟩ := (se [ax, ai, aq, ao] bI).g12 aa ab ac ae af ah ag J E O ak al
   replace ⟨aA, C, W, am⟩ := (se [ax, ai, aq, ao] bI).g4 aA C W am
   refine .go 3 <| GE.append (T := 31) (ty := 31) (args := [vS ax 0 0, .slice b0 aj.parts.length b6]) (by kernel_rfl) fun gV bJ => ?_
   replace ⟨aa, ab, ac, ae, af, ah, ag, J, E, O, ak, al⟩ := (se [ax, ai, aq, ao] bJ).g12 aa ab ac ae af ah ag J E O ak al
   replace ⟨aA, aG, C, W, am⟩ := (se [ax, ai, aq, ao] bJ).g5 aA aG C W am
   obtain ⟨cw, eS, gW, cx, aJ, aN, bk, dN⟩ := aA.append (P := Tryz.prog) (T := 31) (ty := 31) (by kernel_rfl) (ah.base (fun _ _ h => h.1)) (fun b _ h => own_in (.head _) h) (by have q1 : DD au ∧ SD aj := ‹_›; have q2 := q1.2.np; omega)
   refine ⟨_, _, cx, Chg.toS bk (Cov.toS cu), ?_⟩
   have dO := nb_or aN (Nb.symm dL) aG.lt
   have dP := cov_or aN cr W.size
   replace ⟨aa, ab, ac, ae, af, ah, ag, J, E, O, ak, al⟩ := (sa [ax, ai, aq, ao] bk aN).g12 aa ab ac ae af ah ag J E O ak al
   replace ⟨aG, C, W, am⟩ := (sa [ax, ai, aq, ao] bk aN).g4 aG C W am
   replace aJ := aJ.rn ax
   have fB := aJ.len; have fC := aJ.max
   refine .d fun gX bK => ?_
   replace ⟨aa, ab, ac, ae, af, ah, ag, J, E, O, ak, al⟩ := (se [cw, ai, aq, ao] bK).g12 aa ab ac ae af ah ag J E O ak al
   replace ⟨aJ, aG, C, W, am⟩ := (se [cw, ai, aq, ao] bK).g5 aJ aG C W am
   replace aa := aa.outof
   replace ab := ab.outof
   replace ac := ac.outof
   replace ae := ae.outof
   replace af := af.outof
   replace ah := ah.outof
   replace ag := ag.outof
   replace ak := ak.outof
   replace al := al.outof
   exact ⟨(cw, eS, eR, bc, aH, bd, bg, bh), ⟨by kernel_rfl, by kernel_rfl, by kernel_rfl, by kernel_rfl, by kernel_rfl, trivial⟩, ⟨W, (cov_ge0 dP), (cov_ge0 dM), (Nb.symm dO), aJ, aG, ak, al, aI⟩⟩
  refine .ns 1 42 [.slice bc aH.part.ids.length bd, .slice bg aH.part.blocks.length bh] fun gY bL => ?_
  replace ⟨aa, ab, ac, ae, af, ah, ag, J, E, O, ak, al⟩ := (se [ai, aq, ao] bL).g12 aa ab ac ae af ah ag J E O ak al
  replace ⟨C, W, am⟩ := (se [ai, aq, ao] bL).g3 C W am
  intro eT gZ cy bM ay dQ
  have dR := W.cn cy
  replace ⟨aa, ab, ac, ae, af, ah, ag, J, E, O, ak, al⟩ := (se [ai, aq, ao] bM).g12 aa ab ac ae af ah ag J E O ak al
  replace ⟨C, W, am⟩ := (se [ai, aq, ao] bM).g3 C W am
  refine .go 0 <| .ns 0 42 [] fun g0 bN => ?_
  replace ⟨aa, ab, ac, ae, af, ah, ag, J, E, O, ak, al⟩ := (se [ai, aq, ao] bN).g12 aa ab ac ae af ah ag J E O ak al
  replace ⟨ay, C, W, am⟩ := (se [ai, aq, ao] bN).g4 ay C W am
  intro aS eU aE bO dS dT
  have fD := nb_new aE J.lt
  have fE := nb_new aE E.lt
  have fF := nb_new aE O.lt
  have dU := nb_new aE ay.lt
  have fG := C.cn aE
  have dV := W.cn aE
  have dW := am.cn aE
  replace ⟨aa, ab, ac, ae, af, ah, ag, J, E, O, ak, al⟩ := (sn [ai, aq, ao] bO aE).g12 aa ab ac ae af ah ag J E O ak al
  replace ⟨ay, C, W⟩ := (sn [ai, aq, ao] bO aE).g3 ay C W
  have bP : Own (α := Prt) eU aS 42 (nin (fo F w.heap.size) [aS, ai, aq, ao]) 0 0 [] := Own.nil' dS
  refine .go 3 <| GE.append (T := 31) (ty := 31) (args := [vS aS 0 0, .slice b0 aj.parts.length b6]) (by kernel_rfl) fun hC bQ => ?_
  replace ⟨aa, ab, ac, ae, af, ah, ag, J, E, O, ak, al⟩ := (se [aS, ai, aq, ao] bQ).g12 aa ab ac ae af ah ag J E O ak al
  replace ⟨ay, bP, C, W⟩ := (se [aS, ai, aq, ao] bQ).g4 ay bP C W
  obtain ⟨cz, eV, hD, cA, aK, aO, bm, dX⟩ := bP.append (P := Tryz.prog) (T := 31) (ty := 31) (by kernel_rfl) (ah.base (fun _ _ h => h.1)) (fun b _ h => own_in (.head _) h) (by have q1 : DD au ∧ SD aj := ‹_›; have q2 := q1.2.np; omega)
  refine ⟨_, _, cA, Chg.toS bm (Cov.toS dW), ?_⟩
  have dY := nb_or aO dU ay.lt
  have dZ := cov_or aO dV W.size
  replace ⟨aa, ab, ac, ae, af, ah, ag, J, E, O, ak, al⟩ := (sa [aS, ai, aq, ao] bm aO).g12 aa ab ac ae af ah ag J E O ak al
  replace ⟨ay, C, W⟩ := (sa [aS, ai, aq, ao] bm aO).g3 ay C W
  replace aK := aK.rn aS
  have fH := aK.len; have fI := aK.max
  refine .d fun hE bR => ?_
  replace ⟨aa, ab, ac, ae, af, ah, ag, J, E, O, ak, al⟩ := (se [cz, ai, aq, ao] bR).g12 aa ab ac ae af ah ag J E O ak al
  replace ⟨ay, aK, C, W⟩ := (se [cz, ai, aq, ao] bR).g4 ay aK C W
  replace aa := aa.outof
  replace ab := ab.outof
  replace ac := ac.outof
  replace ae := ae.outof
  replace af := af.outof
  replace ah := ah.outof
  replace ag := ag.outof
  replace ak := ak.outof
  replace al := al.outof
  exact ⟨(cz, eV, eT, bc, aH, bd, bg, bh), ⟨by kernel_rfl, by kernel_rfl, by kernel_rfl, by kernel_rfl, by kernel_rfl, trivial⟩, ⟨W, (cov_ge0 dZ), (cov_ge0 dR), (Nb.symm dY), aK, ay, ak, al, aI⟩⟩
 rintro ⟨aB, bU, aR, bV, aC, bW, bX, bY⟩ hH ba ⟨cB, aP, aX, cC, cD, eW, cE, cF, cG⟩
 have fJ := nb_ge aP J.lt
 have fK := nb_ge aP E.lt
 have d0 := nb_ge aP O.lt
 have fL : Cov nil w aB := cov_ge aP C.size
 have d3 := nb_ge aX J.lt
 have d4 := nb_ge aX E.lt
 have d5 := nb_ge aX O.lt
 have d6 := gb_ge aX C.size
 replace ⟨aa, ab, ac, ae, af, ah, ag, J, E, O, C⟩ := (sz [ai, aq, ao] cB aP).g11 aa ab ac ae af ah ag J E O C
 have fM := cD.len; have fN := cD.max
 have fO := cE.len; have fP := cE.max
 have fQ := cF.len; have fR := cF.max
 have fS := drop_at cG; have eX := List.mem_of_getElem? cG
 have b7 : nin (fo F w.heap.size) [aB, ai, aq, ao] aR ∧ aR ≠ aB := hap_mk (.inr d6) (all_cons cC (all_cons d5 (all_cons d4 (all_cons d3 all_nil)))) cC
 refine RG.append1 (T := 31) (ty := 31) (y := (aC.part)) cD eW (by kernel_rfl) (by kernel_rfl) ⟨_, _, _, _, _, _, rfl, cE.oi, cF.oi⟩ b7 (by have q1 : DD au ∧ SD aj := ‹_›; have q2 := q1.2.np; omega) fun aY eY hJ ar bn cH => ?_
 have fT := nb_or bn d0 O.lt
 replace ⟨aa, ab, ac, ae, af, ah, ag, J, E, O, C⟩ := (sa [aB, ai, aq, ao] cH bn).g11 aa ab ac ae af ah ag J E O C
 replace ar := ar.rn aB
 have fU := ar.len; have fV := ar.max
 refine .r 1 <| .ss 2 (vS aY (0 + aj.parts.length + 1) eY) O fun hN cI aw d7 => ?_
 replace ⟨aa, ab, ac, ae, af, ah, ag, J, E, ar, C⟩ := (so [aY, ai, aq, ao] cI).g11 aa ab ac ae af ah ag J E ar C
 refine .d <| .s <| .g <| .ln E <| .np 34 [.slice none 0 0, .slice none 0 0, .slice none 0 0, .slice none 0 0] fun bZ hO aL cJ d8 d9 => ?_
 have fW := nb_new aL J.lt
 have fX := nb_new aL E.lt
 have fY := nb_new aL aw.lt
 have fZ := nb_new aL ar.lt
 have f0 := C.cn aL
 replace ⟨aa, ab, ac, ae, af, ah, ag, J, E, aw, ar, C⟩ := (sn [aY, ai, aq, ao] cJ aL).g12 aa ab ac ae af ah ag J E aw ar C
 refine .sc [.slice de aj.idx.names.length df, .slice dg aj.idx.posts.length dh, .slice b0 aj.parts.length b6, .slice dj aj.mem.length dm] d8 fun c9 cK cL ec => ?_
 replace ⟨aa, ab, ac, ae, af, ah, ag, J, E, aw, ar, C⟩ := (so [bZ, aY, ai, aq, ao] cK).g12 aa ab ac ae af ah ag J E aw ar C
 refine .d <| .s <| .s <| .g <| .r 1 <| .lb E <| .r 1 <| .bp ((aj.parts.length : Int) > 0) (fun ed => ?_) (fun ed => ?_)
 ·refine .d <| .ct <| .s <| .g <| .r 1 <| .lb E <| RG.sub (t := 31) (lo := some (vI 1)) (hi := none) ah 1 aj.parts.length (by kernel_rfl) (by kernel_rfl) (.inr ⟨_, _, rfl, by omega⟩) (.inl ⟨rfl, rfl⟩) (by omega) (by omega) fun eZ e7 br => ?_
  have f5 := br.len; have f6 := br.max
  refine .r 1 <| .ss 2 (.slice eZ (aj.parts.length - 1) e7) cL fun da cM aZ ee => ?_
  replace ⟨aa, ab, ac, ae, af, ag, J, E, aw, ar, br, C⟩ := (so [bZ, aY, ai, aq, ao] cM).g12 aa ab ac ae af ag J E aw ar br C
  refine .d <| .s <| .g <| .ln J <| .ln aZ <| .cl (c_impl_StepsFlush au (⟨(⟨aj.idx.names, aj.idx.posts⟩ : Idx), ((aj.parts.take aj.parts.length).drop 1), aj.mem⟩ : Sto) aa.ta ab.ta ac.ta ae.ta af.ta br.ta ag.ta (by have q1 : DD au ∧ SD aj := ‹_›; exact q1.1) (by have q1 : DD au ∧ SD aj := ‹_›; exact so_gen q1.2 (by have := q1.2.np; rw [List.length_drop, List.length_take]; omega) (fun p hp => List.mem_of_mem_take (List.mem_of_mem_drop hp))) (w := da) (F := all)) ?_
  rintro hQ db ⟨⟨hV, hW, rfl, bt⟩, cN⟩
  have cO := al5 aZ.lt ar.lt aw.lt E.lt J.lt
  have ef : Gb w.heap.size da.heap.size := C.size
  replace ⟨aa, ab, ac, ae, af, ag, J, E, aw, ar, aZ, C⟩ := (se [bZ, aY, ai, aq, ao] cN).g12 aa ab ac ae af ag J E aw ar aZ C
  have bt := bt.fr cO ef
  replace bt := bt.base (G' := fo F w.heap.size) (fun _ _ h => .inr h)
  have f7 := bt.max
  refine .r 1 <| .bp ((((dflush au (⟨(⟨aj.idx.names, aj.idx.posts⟩ : Idx), ((aj.parts.take aj.parts.length).drop 1), aj.mem⟩ : Sto)).length) : Int) > 0) (fun eg => .d <| .ct <| .s <| .g <| .r 1 <| .d <| .rt Tryz.func3 Tryz.results3 (.bool false) ⟨(congrArg Value.bool (by exfalso; exact so_false ‹_› (ps := (aj.parts.take aj.parts.length).drop 1) (by rw [List.length_drop, List.length_take]; omega) ‹_›)), C⟩) fun eg => .d <| .cf <| .sk <| .s <| .g <| .ln J <| .ln aw <| .cl (c_impl_StepsFlush au (⟨(⟨aj.idx.names, aj.idx.posts⟩ : Idx), (([] ++ aj.parts) ++ [(aC.part)]), aj.mem⟩ : Sto) aa.ta ab.ta ac.ta ae.ta af.ta (ar.rep) ag.ta (by have q1 : DD au ∧ SD aj := ‹_›; exact q1.1) (by have q1 : DD au ∧ SD aj := ‹_›; exact so_app q1.2 ‹_› ‹_›) (w := db) (F := all)) ?_
  rintro ia ic ⟨⟨ie, ig, rfl, bu⟩, cP⟩
  have cQ := al5 aZ.lt ar.lt aw.lt E.lt J.lt
  have eh : Gb w.heap.size db.heap.size := C.size
  replace ⟨aa, ab, ac, ae, af, ag, J, E, aw, ar, C⟩ := (se [bZ, aY, ai, aq, ao] cP).g11 aa ab ac ae af ag J E aw ar C
  have bu := bu.fr cQ eh
  replace bu := bu.base (G' := fo F w.heap.size) (fun _ _ h => .inr h)
  have f8 := bu.max
  exact .r 3 <| .d <| .rt Tryz.func3 Tryz.results3 (.bool ((((dflush au (⟨(⟨aj.idx.names, aj.idx.posts⟩ : Idx), (([] ++ aj.parts) ++ [(aC.part)]), aj.mem⟩ : Sto)).length) : Int) == 0)) ⟨(congrArg Value.bool (by exact so_sym ‹_› (by rw [List.nil_append, List.length_append, List.length_singleton]; omega))), C⟩
 refine .d <| .cf <| .sk <| .s <| .g <| .ln J <| .ln aw <| .cl (c_impl_StepsFlush au (⟨(⟨aj.idx.names, aj.idx.posts⟩ : Idx), (([] ++ aj.parts) ++ [(aC.part)]), aj.mem⟩ : Sto) aa.ta ab.ta ac.ta ae.ta af.ta (ar.rep) ag.ta (by have q1 : DD au ∧ SD aj := ‹_›; exact q1.1) (by have q1 : DD au ∧ SD aj := ‹_›; exact so_app q1.2 ‹_› ‹_›) (w := c9) (F := all)) ?_
 rintro ii ij ⟨⟨ik, il, rfl, bv⟩, cR⟩
 have cS := al5 cL.lt ar.lt aw.lt E.lt J.lt
 have ej : Gb w.heap.size c9.heap.size := C.size
 replace C := (se [] cR).g1 C
 have bv := bv.fr cS ej
 replace bv := bv.base (G' := fo F w.heap.size) (fun _ _ h => .inr h)
 have f9 := bv.max
 exact .r 3 <| .d <| .rt Tryz.func3 Tryz.results3 (.bool ((((dflush au (⟨(⟨aj.idx.names, aj.idx.posts⟩ : Idx), (([] ++ aj.parts) ++ [(aC.part)]), aj.mem⟩ : Sto)).length) : Int) == 0)) ⟨(congrArg Value.bool (by exact so_sym ‹_› (by rw [List.nil_append, List.length_append, List.length_singleton]; omega))), C⟩
end Go.Proofs.YtganlmloonielaaGreat
