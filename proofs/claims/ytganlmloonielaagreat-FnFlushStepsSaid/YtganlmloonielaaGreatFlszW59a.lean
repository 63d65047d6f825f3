/- walks; hints pruned; squeezed -/
import Derived.Test.YtganlmloonielaaGreatFlszW57
set_option linter.unusedVariables false
set_option linter.unusedSimpArgs false
namespace Go.Proofs.YtganlmloonielaaGreat
set_option maxRecDepth 100000
set_option maxHeartbeats 4000000
theorem c_laws_FnFlushSteps (code : List UInt8) {w : World} {F : Nat → Prop} {a1 : Option Addr} {n1 c1 : Nat} (h1 : RepS w F a1 n1 c1 code)  : Calls Tryz.prog 4 [.slice a1 n1 c1].toArray w (rets fun rv w' => rv = .bool (true) ∧ Ext w w') := by
 refine goT Tryz.func4 ?_
 obtain ⟨rfl, io, h1⟩ := h1.tp
 refine .s <| .g <| .r 1 <| .d <| .s <| .s <| .g <| .r 2 <| .bp ((code.length : Int) > 1048576) (fun fv => .d <| .ct <| .s <| .g <| .r 1 <| .d <| .rt Tryz.func4 Tryz.results4 (.bool true) ⟨(congrArg Value.bool (by rfl)), (Chg.refl _ _)⟩) fun fv => .d <| .cf <| .sk <| .s <| .g <| .r 1 <| .cl (c_spec_DrawStepsFlush code h1 (w := w) (F := nin (fo F w.heap.size) [])) ?_
 rintro kQ kR ⟨⟨ac, af, ⟨kS, kT, rfl, ⟨_, rfl, ⟨gq, kU, gr, dt, kV, du, gs, kW, gt, rfl, az, ae, aA⟩⟩, ⟨_, rfl, ⟨gu, kX, gv, gw, kY, gx, gy, kZ, gz, gA, k5, gC, rfl, al, am, ao, aq⟩⟩⟩, ip⟩, dv⟩
 have aN : ∀ q_ ∈ ([] : List Nat), q_ < w.heap.size := all_nil
 have aQ : Gb w.heap.size w.heap.size := (Nat.le_refl _)
 have C := dv
 replace az := RepS.mixed' (M := []) az aN aQ
 have iq := az.max
 replace ae := RepS.mixed' (M := []) ae aN aQ
 have ir := ae.max
 replace aA := RepS.mixed' (M := []) aA aN aQ
 have iu := aA.max
 replace al := RepS.mixed' (M := []) al aN aQ
 have iw := al.max
 replace am := RepS.mixed' (M := []) am aN aQ
 have iy := am.max
 replace ao := RepS.mixed' (M := []) ao aN aQ
 have iz := ao.max
 replace aq := RepS.mixed' (M := []) aq aN aQ
 have iA := aq.max
 have fw := az.len
 subst fw
 have fz := ae.len
 subst fz
 have fA := aA.len
 subst fA
 have fB := al.len
 subst fB
 have fC := am.len
 subst fC
 have fD := ao.len
 subst fD
 have fE := aq.len
 subst fE
 refine .r 3 <| .np 27 [.slice none 0 0, .slice none 0 0, .slice none 0 0, vI 0] fun ah k6 bT dw bH fF => ?_
 have iB := C.cn bT
 replace ⟨az, ae, aA, al, am, ao, aq, C⟩ := (sn [] dw bT).g8 az ae aA al am ao aq C
 refine .np 34 [.slice none 0 0, .slice none 0 0, .slice none 0 0, .slice none 0 0] fun ai k7 bI dx bU fG => ?_
 have iC := nb_new bI bH.lt
 have iD := C.cn bI
 replace ⟨az, ae, aA, al, am, ao, aq, bH, C⟩ := (sn [ah] dx bI).g9 az ae aA al am ao aq bH C
 refine .sc [.slice gq ac.files.length gr, .slice dt ac.list.length du, .slice gs ac.names.length gt, vI ac.next] bH fun k8 dy O fH => ?_
 replace ⟨az, ae, aA, al, am, ao, aq, bU, C⟩ := (so [ai, ah] dy).g9 az ae aA al am ao aq bU C
 refine .sc [.slice gu af.idx.names.length gv, .slice gw af.idx.posts.length gx, .slice gy af.parts.length gz, .slice gA af.mem.length gC] bU fun fI dz J fJ => ?_
 replace ⟨az, ae, aA, al, am, ao, aq, O, C⟩ := (so [ai, ah] dz).g9 az ae aA al am ao aq O C
 refine .d <| .s <| .g <| .ln O <| .ln J <| .cl (c_impl_StepsFlush ac af az.ta ae.ta aA.ta al.ta am.ta ao.ta aq.ta (by have q1 : DD ac ∧ SD af := ‹_›; exact q1.1) (SG.of (by have q1 : DD ac ∧ SD af := ‹_›; exact q1.2)) (w := fI) (F := all)) ?_
 rintro iE fK ⟨⟨iF, iG, rfl, E⟩, dA⟩
 have bV := al2 J.lt O.lt
 have dK : Gb w.heap.size fI.heap.size := C.size
 replace ⟨az, ae, aA, al, am, ao, aq, O, J, C⟩ := (se [ai, ah] dA).g10 az ae aA al am ao aq O J C
 have E := E.fr bV dK
 replace E := E.base (G' := fo F w.heap.size) (fun _ _ h => .inr h)
 have gD := E.max
 refine .r 1 <| .d <| .s <| .s <| .g <| .r 1 <| .ln O <| .ln J <| .cl (c_spec_StepsFlushE ac af az.ta ae.ta aA.ta al.ta am.ta ao.ta aq.ta (by have q1 : DD ac ∧ SD af := ‹_›; exact q1.1) (by have q1 : DD ac ∧ SD af := ‹_›; exact q1.2) (w := fK) (F := all)) ?_
 rintro iH fL ⟨⟨iI, iJ, rfl, bk⟩, bW⟩
 have bX := al2 J.lt O.lt
 have dL : Gb w.heap.size fK.heap.size := C.size
 replace ⟨az, ae, aA, al, am, ao, aq, O, J, E, C⟩ := (se [ai, ah] bW).g11 az ae aA al am ao aq O J E C
 have bk := bk.fr bX dL
 replace bk := bk.base (G' := fo F w.heap.size) (fun _ _ h => .inr h)
 refine .cl (c_laws_lySteps (dflush ac af) (dflush ac af) E.ta bk.ta (w := fL) (F := all)) ?_
 rintro iK bJ ⟨rfl, bY⟩
 replace ⟨az, ae, aA, al, am, ao, aq, O, J, E, C⟩ := (se [ai, ah] bY).g11 az ae aA al am ao aq O J E C
 rw [show (((dflush ac af) == (dflush ac af))) = true from beq_self_eq_true _]
 refine .r 4 <| .eq (((dflush ac af).length) : Int) 0 (fun dM => ?_) (fun dM => ?_)
 ·refine .r 1 <| .d <| .ct <| .s <| .g <| .r 1 <| .ln O <| .ln J <| .cl (c_spec_StepsFlushE ac af az.ta ae.ta aA.ta al.ta am.ta ao.ta aq.ta (by have q1 : DD ac ∧ SD af := ‹_›; exact q1.1) (by have q1 : DD ac ∧ SD af := ‹_›; exact q1.2) (w := bJ) (F := all)) ?_
  rintro iL fM ⟨⟨iM, iN, rfl, bm⟩, bZ⟩
  have b0 := al2 J.lt O.lt
  have dN : Gb w.heap.size bJ.heap.size := C.size
  replace ⟨ae, al, am, ao, aq, O, J, E, C⟩ := (se [ai, ah] bZ).g9 ae al am ao aq O J E C
  have bm := bm.fr b0 dN
  replace bm := bm.base (G' := fo F w.heap.size) (fun _ _ h => .inr h)
  refine .cl (c_laws_lySteps (dflush ac af) (dflush ac af) E.ta bm.ta (w := fM) (F := all)) ?_
  rintro iO iP ⟨rfl, b6⟩
  replace ⟨ae, al, am, ao, aq, O, J, E, C⟩ := (se [ai, ah] b6).g9 ae al am ao aq O J E C
  rw [show (((dflush ac af) == (dflush ac af))) = true from beq_self_eq_true _]
  exact .r 1 <| .d <| .rt Tryz.func4 Tryz.results4 (.bool true) ⟨(congrArg Value.bool (by rfl)), C⟩
 refine .r 1 <| .d <| .cf <| .sk <| .s <| .g <| .ln J <| .cl (c_impl_StoreFlush af al am ao aq (by have q1 : DD ac ∧ SD af := ‹_›; exact q1.2) (w := bJ) (F := nin (fo F w.heap.size) [ai, ah])) ?_
 rintro iQ iR ⟨⟨iS, rfl, ⟨_, rfl, ⟨fN, iT, fO, fP, iU, fQ, fR, iV, fS, fT, iW, fU, rfl, bK, bL, au, bM⟩⟩⟩, b7⟩
 have aR := al2 J.lt O.lt
 have ba : Gb w.heap.size bJ.heap.size := C.size
 replace ⟨ae, O, J, E, C⟩ := (se [ai, ah] b7).g5 ae O J E C
 replace bK := RepS.mixed' (M := [ai, ah]) bK aR ba
 have gE := bK.max
 replace bL := RepS.mixed' (M := [ai, ah]) bL aR ba
 have gF := bL.max
 replace au := RepS.mixed' (M := [ai, ah]) au aR ba
 have gG := au.max
 replace bM := RepS.mixed' (M := [ai, ah]) bM aR ba
 have gH := bM.max
 have dO := bK.len
 subst dO
 have dP := bL.len
 subst dP
 have dQ := au.len
 subst dQ
 have dR := bM.len
 subst dR
 have dS : ((flushP af).2) = true := (fz_ok (by have q1 : DD ac ∧ SD af := ‹_›; exact q1.2) ‹_›)
 rw [dS]
 refine .r 3 <| .np 34 [.slice none 0 0, .slice none 0 0, .slice none 0 0, .slice none 0 0] fun ag iX aS b8 dT dU => ?_
 have gI := nb_new aS O.lt
 have gJ := nb_new aS J.lt
 have gK := C.cn aS
 replace ⟨ae, O, J, E, au, C⟩ := (sn [ai, ah] b8 aS).g6 ae O J E au C
 refine .sc [.slice fN (((((flushP af).1).idx).names).length) fO, .slice fP (((((flushP af).1).idx).posts).length) fQ, .slice fR ((((flushP af).1).parts).length) fS, .slice fT ((((flushP af).1).mem).length) fU] dT fun aO b9 aa dV => ?_
 replace ⟨ae, O, J, E, au, C⟩ := (so [ag, ai, ah] b9).g6 ae O J E au C
 refine .r 1 <| .d <| .s <| .g <| .r 1 <| .lb J <| .r 2 <| .d <| .s ?_
 replace ae := ae.into
 replace E := E.into
 replace au := au.into
 have bo : Gb (ah + 1) aO.heap.size := O.lt
 have bq : Gb (ai + 1) aO.heap.size := J.lt
 have dW : Gb (ag + 1) aO.heap.size := aa.lt
 refine .gd (mtb [] aO.heap.size) 66 fun fV br => ?_
 replace ⟨ae, O, J, E, au, aa, C⟩ := (se [ag, ai, ah] br).g7 ae O J E au aa C
 have W : Chg (mtb [] aO.heap.size) aO fV := Chg.stepN (Chg.refl (mtb [] aO.heap.size) aO) br
 refine .r [0, 1, 2, 3] <| GA.eqI (i := 4) (a := (((dflush ac af).length) : Int)) (b := 2) (by kernel_rfl) (fun dX => ?_) (fun dX => ?_)
 ·refine .r [5, 6, 7] ?_
  have cd : 0 < (dflush ac af).length := (by omega)
  refine GA.idx (i := 8) 0 (len := (dflush ac af).length) (z := 0) (sz := 6) (by kernel_rfl) (by omega) cd (E.addr (Nat.zero_lt_of_lt cd)) <| .r [9] ?_
  obtain ⟨bn, aJ⟩ : ∃ y, (dflush ac af)[0]? = some y := ⟨_, List.getElem?_eq_getElem (by omega)⟩
  have gL := drop_at aJ; have fW := List.mem_of_getElem? aJ
  obtain ⟨_, ⟨iY, iZ, ja, jb, jc, jd, je, jf, jg, jh, ji, jj, rfl, ce, cg, dB, dC⟩, bt⟩ := E.elem 0 bn aJ
  have dY := ce.len
  subst dY
  have gM := ce.max
  have dZ := cg.len
  subst dZ
  have gN := cg.max
  have d0 := dB.len
  subst d0
  have gO := dB.max
  have d3 := dC.len
  subst d3
  have gP := dC.max
  refine .lh 10 0 bt (E.nS (pos_of aJ) all_nil) <| GA.eqI (i := 11) (a := bn.kind) (b := 1) (by kernel_rfl) (fun d4 => ?_) (fun d4 => ?_)
  ·refine .r [12, 13, 14] ?_
   have ci : 0 < (dflush ac af).length := (by omega)
   refine GA.idx (i := 15) 0 (len := (dflush ac af).length) (z := 0) (sz := 6) (by kernel_rfl) (by omega) ci (E.addr (Nat.zero_lt_of_lt ci)) <| .r [16] <| .lh 17 1 bt (E.nS (pos_of aJ) all_nil) <| .r [18] <| .lb 19 O (nS_of all_nil bo) <| GA.eqI (i := 20) (a := bn.num) (b := ac.next) (by kernel_rfl) (fun d5 => ?_) (fun d5 => ?_)
   ·refine .r [21, 22, 23] ?_
    have cj : 0 < (dflush ac af).length := (by omega)
    refine GA.idx (i := 24) 0 (len := (dflush ac af).length) (z := 0) (sz := 6) (by kernel_rfl) (by omega) cj (E.addr (Nat.zero_lt_of_lt cj)) <| .r [25] <| .lg 26 2 bt (E.nS (pos_of aJ) all_nil) <| .r [27] <| .lb 28 aa (nS_of all_nil dW) <| .r [29] ?_
    have ck : af.parts.length < (((flushP af).1).parts).length := (by exact fz_len (by have q1 : DD ac ∧ SD af := ‹_›; exact q1.2) ‹_›)
    refine GA.idx (i := 30) af.parts.length (len := (((flushP af).1).parts).length) (z := (af.parts.length : Int)) (sz := 2) (by kernel_rfl) (by omega) ck (au.addr (Nat.zero_lt_of_lt ck)) ?_
    obtain ⟨cm, bc⟩ : ∃ y, (((flushP af).1).parts)[af.parts.length]? = some y := ⟨_, List.getElem?_eq_getElem (by omega)⟩
    have gQ := drop_at bc; have fX := List.mem_of_getElem? bc
    obtain ⟨_, ⟨jk, jl, jm, jn, jo, jp, rfl, co, cp⟩, d6⟩ := au.elem af.parts.length cm bc
    have d7 := co.len
    subst d7
    have gR := co.max
    have d8 := cp.len
    subst d8
    have gS := cp.max
    refine .lg 31 0 d6 (au.nS (pos_of bc) all_nil) <| GA.call1 (i := 32) (by kernel_rfl) (fun fY bd => c_laws_lyPart (bn.part) cm (ce.chgS bd all_nil) (cg.chgS bd all_nil) (co.chgS bd all_nil) (cp.chgS bd all_nil) (w := fY) (F := all)) ?_
    have d9 : ((bn.part) == cm) = true := (fz_same (by have q1 : DD ac ∧ SD af := ‹_›; exact q1.2) ‹_› ‹_› ‹_›)
    rw [d9]
    refine .r [33, 34, 35] ?_
    have cq : 1 < (dflush ac af).length := (by omega)
    refine GA.idx (i := 36) 1 (len := (dflush ac af).length) (z := 1) (sz := 6) (by kernel_rfl) (by omega) cq (E.addr (Nat.zero_lt_of_lt cq)) <| .r [37] ?_
    obtain ⟨ax, av⟩ : ∃ y, (dflush ac af)[1]? = some y := ⟨_, List.getElem?_eq_getElem (by omega)⟩
    have gT := drop_at av; have fZ := List.mem_of_getElem? av
    obtain ⟨_, ⟨jq, jr, js, jt, ju, jv, jw, jx, jy, jz, jA, jB, rfl, dD, dE, ab, dF⟩, cr⟩ := E.elem 1 ax av
    have ec := dD.len
    subst ec
    have gU := dD.max
    have ed := dE.len
    subst ed
    have gV := dE.max
    have ee := ab.len
    subst ee
    have gW := ab.max
    have ef := dF.len
    subst ef
    have gX := dF.max
    refine .lh 38 0 cr (E.nS (pos_of av) all_nil) <| GA.eqI (i := 39) (a := ax.kind) (b := 2) (by kernel_rfl) (fun eg => ?_) (fun eg => ?_)
    ·refine .r [40, 41, 42] ?_
     have cu : 1 < (dflush ac af).length := (by omega)
     refine GA.idx (i := 43) 1 (len := (dflush ac af).length) (z := 1) (sz := 6) (by kernel_rfl) (by omega) cu (E.addr (Nat.zero_lt_of_lt cu)) <| .r [44] <| .lh 45 4 cr (E.nS (pos_of av) all_nil) <| .r [47] <| .lb 48 O (nS_of all_nil bo) <| .r [50] <| .lb 51 O (nS_of all_nil bo) <| .tw 46 52 ?_ ?_
     ·refine .ns 0 3 [] fun jC cv => ?_
      replace ⟨ae, O, J, E, aa, ab, C, W⟩ := (se [ag, ai, ah] cv).g8 ae O J E aa ab C W
      intro aC f0 aF cw eh ej
      have cx := nb_new aF O.lt
      have cy := nb_new aF J.lt
      have cz := nb_new aF aa.lt
      have cA := C.cn aF
      have bg := W.cn aF
      replace ⟨ae, O, J, E, aa, ab, C, W⟩ := (sn [ag, ai, ah] cw aF).g8 ae O J E aa ab C W
      have aw : Own (α := Int) f0 aC 3 (nin (fo F w.heap.size) [aC, ag, ai, ah]) 0 0 [] := Own.nil' eh
      refine .tw 49 52 ?_ ?_
      ·refine GE.append (T := 24) (ty := 24) (args := [vS aC 0 0, .slice dt ac.list.length du]) (by kernel_rfl) fun jD cB => ?_
       replace ⟨ae, O, J, E, aa, ab, aw, C, W⟩ := (se [aC, ag, ai, ah] cB).g9 ae O J E aa ab aw C W
       obtain ⟨aP, f5, jE, cC, ar, aB, bu, ek⟩ := Own.appendF (P := Tryz.prog) (T := 24) (ty := 24) flat_int aw (by kernel_rfl) ae (fun b h e => h.2 (e ▸ (.head _))) (by have q1 : DD ac ∧ SD af := ‹_›; have q2 := q1.1.nl; omega)
       refine ⟨_, _, cC, Chg.toS bu (Cov.toS bg), ?_⟩
       have gY := nb_or aB cx O.lt
       have gZ := nb_or aB cy J.lt
       have g0 := nb_or aB cz aa.lt
       have hC := cov_or aB cA C.size
       have en := cov_or aB bg W.size
       replace ⟨ae, O, J, E, aa, ab, C, W⟩ := (sa [aC, ag, ai, ah] bu aB).g8 ae O J E aa ab C W
       replace ar := ar.rn aC
       have hD := ar.len; have hE := ar.max
       refine .go 52 <| .ns 1 3 [vI ac.next] fun jF cD => ?_
       replace ⟨ae, O, J, E, aa, ab, ar, C, W⟩ := (se [aP, ag, ai, ah] cD).g9 ae O J E aa ab ar C W
       intro cE jG aK cF bv et
       have ey := nb_new aK O.lt
       have ez := nb_new aK J.lt
       have eA := nb_new aK aa.lt
       have cG := nb_new aK ar.lt
       have eB := gb_new aK C.size
       replace ⟨ae, O, J, E, aa, ab, ar, C, W⟩ := (se [aP, ag, ai, ah] cF).g9 ae O J E aa ab ar C W
       refine .go 53 <| GE.append (T := 24) (ty := 24) (args := [vS aP (0 + ac.list.length) f5, vS cE 1 1]) (by kernel_rfl) fun jH cH => ?_
       replace ⟨ae, O, J, E, aa, ab, ar, bv, C, W⟩ := (se [aP, ag, ai, ah] cH).g10 ae O J E aa ab ar bv C W
       have bQ : nin (fo F w.heap.size) [aP, ag, ai, ah] cE ∧ cE ≠ aP := hap_mk (.inr eB) (all_cons cG (all_cons eA (all_cons ez (all_cons ey all_nil)))) cG
       obtain ⟨cI, jI, jJ, cJ, aT, bN, bw, eC⟩ := ar.append1 (P := Tryz.prog) (T := 24) (ty := 24) (y := ac.next) (by kernel_rfl) bv rfl bQ (by have q1 : DD ac ∧ SD af := ‹_›; have q2 := q1.1.nl; omega)
       refine ⟨_, _, cJ, Chg.toS bw (Cov.toS en), ?_⟩
       replace ⟨ae, O, J, E, aa, ab, C, W⟩ := (sa [aP, ag, ai, ah] bw bN).g8 ae O J E aa ab C W
       replace aT := aT.rn aP
       have hH := aT.len; have hJ := aT.max
       refine .go 54 <| .cl (fun dG bh => c_laws_lyInts ax.list (([] ++ ac.list) ++ [ac.next]) (ab.ta.ext bh) ((aT.rep).ext bh) (w := dG) (F := all)) ?_
       intro dG bh
       replace ⟨ae, O, J, E, aa, ab, C, W⟩ := (se [cI, ag, ai, ah] bh).g8 ae O J E aa ab C W
       rintro jK jL ⟨rfl, bz⟩
       have hkeep_ := bz
       replace ⟨ae, O, J, E, aa, ab, C, W⟩ := (se [cI, ag, ai, ah] bz).g8 ae O J E aa ab C W
       refine ⟨Ext.chg hkeep_, ?_⟩
       have eD : (ax.list == (([] ++ ac.list) ++ [ac.next])) = true := (fz_list ‹_› ‹_›)
       rw [eD]
       refine .r [55, 56, 57] ?_
       have cK : 1 < (dflush ac af).length := (by omega)
       refine GA.idx (i := 58) 1 (len := (dflush ac af).length) (z := 1) (sz := 6) (by kernel_rfl) (by omega) cK (E.addr (Nat.zero_lt_of_lt cK)) <| .r [59] ?_
       obtain ⟨_, ⟨jM, jN, jO, jP, jQ, jR, jS, jT, jU, jV, jW, jX, rfl, f6, f7, f8, f9⟩, eE⟩ := E.elem 1 ax av
       have eF := f6.len
       subst eF
       have eG := f7.len
       subst eG
       have eH := f8.len
       subst eH
       have eI := f9.len
       subst eI
       refine .lh 60 5 eE (E.nS (pos_of av) all_nil) <| .r [61, 62, 63] <| .lb 64 J (nS_of all_nil bq) <| .r [65] <| .d fun jY cL => ?_
       replace ⟨ae, O, J, E, aa, ab, C, W⟩ := (se [cI, ag, ai, ah] cL).g8 ae O J E aa ab C W
       replace ae := ae.outof
       replace E := E.outof
       replace ab := ab.outof
       exact .r 3 <| .d <| .rt Tryz.func4 Tryz.results4 (.bool ((ax.names.length : Int) == (af.idx.names.length : Int))) ⟨(congrArg Value.bool (by rw [(fz_at1 ‹_› ‹_›).2.2]; exact beq_self_eq_true _)), C⟩
      refine .ns 1 3 [vI ac.next] fun jZ cM => ?_
      replace ⟨ae, O, J, E, aa, ab, aw, C, W⟩ := (se [aC, ag, ai, ah] cM).g9 ae O J E aa ab aw C W
      intro cN j0 aL cO aD eJ
      have eK := nb_new aL O.lt
      have eL := nb_new aL J.lt
      have eM := nb_new aL aa.lt
      have eN := nb_new aL aw.lt
      have eO := gb_new aL C.size
      replace ⟨ae, O, J, E, aa, ab, aw, C, W⟩ := (se [aC, ag, ai, ah] cO).g9 ae O J E aa ab aw C W
      refine .go 49 <| GE.append (T := 24) (ty := 24) (args := [vS aC 0 0, .slice dt ac.list.length du]) (by kernel_rfl) fun j1 cP => ?_
      replace ⟨ae, O, J, E, aa, ab, aw, aD, C, W⟩ := (se [aC, ag, ai, ah] cP).g10 ae O J E aa ab aw aD C W
      obtain ⟨aX, ga, j2, cQ, aG, ay, bA, eP⟩ := Own.appendF (P := Tryz.prog) (T := 24) (ty := 24) flat_int aw (by kernel_rfl) ae (fun b h e => h.2 (e ▸ (.head _))) (by have q1 : DD ac ∧ SD af := ‹_›; have q2 := q1.1.nl; omega)
      refine ⟨_, _, cQ, Chg.toS bA (Cov.toS bg), ?_⟩
      have hN := nb_or ay cx O.lt
      have hO := nb_or ay cy J.lt
      have hQ := nb_or ay cz aa.lt
      have cR := nb_or ay (Nb.symm eN) aD.lt
      have hV := cov_or ay cA C.size
      have eQ := cov_or ay bg W.size
      replace ⟨ae, O, J, E, aa, ab, aD, C, W⟩ := (sa [aC, ag, ai, ah] bA ay).g9 ae O J E aa ab aD C W
      replace aG := aG.rn aC
      have hW := aG.len; have ia := aG.max
      refine .go 53 <| GE.append (T := 24) (ty := 24) (args := [vS aX (0 + ac.list.length) ga, vS cN 1 1]) (by kernel_rfl) fun j3 cS => ?_
      replace ⟨ae, O, J, E, aa, ab, aG, aD, C, W⟩ := (se [aX, ag, ai, ah] cS).g10 ae O J E aa ab aG aD C W
      have bR : nin (fo F w.heap.size) [aX, ag, ai, ah] cN ∧ cN ≠ aX := hap_mk (.inr eO) (all_cons (Nb.symm cR) (all_cons eM (all_cons eL (all_cons eK all_nil)))) (Nb.symm cR)
      obtain ⟨cT, j4, j5, cU, aU, bO, bB, eR⟩ := aG.append1 (P := Tryz.prog) (T := 24) (ty := 24) (y := ac.next) (by kernel_rfl) aD rfl bR (by have q1 : DD ac ∧ SD af := ‹_›; have q2 := q1.1.nl; omega)
      refine ⟨_, _, cU, Chg.toS bB (Cov.toS eQ), ?_⟩
      replace ⟨ae, O, J, E, aa, ab, C, W⟩ := (sa [aX, ag, ai, ah] bB bO).g8 ae O J E aa ab C W
      replace aU := aU.rn aX
      have ic := aU.len; have ie := aU.max
      refine .go 54 <| .cl (fun dH bi => c_laws_lyInts ax.list (([] ++ ac.list) ++ [ac.next]) (ab.ta.ext bi) ((aU.rep).ext bi) (w := dH) (F := all)) ?_
      intro dH bi
      replace ⟨ae, O, J, E, aa, ab, C, W⟩ := (se [cT, ag, ai, ah] bi).g8 ae O J E aa ab C W
      rintro j6 j7 ⟨rfl, bC⟩
      have hkeep_ := bC
      replace ⟨ae, O, J, E, aa, ab, C, W⟩ := (se [cT, ag, ai, ah] bC).g8 ae O J E aa ab C W
      refine ⟨Ext.chg hkeep_, ?_⟩
      have eS : (ax.list == (([] ++ ac.list) ++ [ac.next])) = true := (fz_list ‹_› ‹_›)
      rw [eS]
      refine .r [55, 56, 57] ?_
      have cV : 1 < (dflush ac af).length := (by omega)
      refine GA.idx (i := 58) 1 (len := (dflush ac af).length) (z := 1) (sz := 6) (by kernel_rfl) (by omega) cV (E.addr (Nat.zero_lt_of_lt cV)) <| .r [59] ?_
      obtain ⟨_, ⟨j8, j9, ka, kb, kd, ke, kf, kg, kh, ki, kj, kk, rfl, gb, gf, gh, gi⟩, eT⟩ := E.elem 1 ax av
      have eU := gb.len
      subst eU
      have eV := gf.len
      subst eV
      have eW := gh.len
      subst eW
      have eX := gi.len
      subst eX
      refine .lh 60 5 eT (E.nS (pos_of av) all_nil) <| .r [61, 62, 63] <| .lb 64 J (nS_of all_nil bq) <| .r [65] <| .d fun kl cW => ?_
      replace ⟨ae, O, J, E, aa, ab, C, W⟩ := (se [cT, ag, ai, ah] cW).g8 ae O J E aa ab C W
      replace ae := ae.outof
      replace E := E.outof
      replace ab := ab.outof
      exact .r 3 <| .d <| .rt Tryz.func4 Tryz.results4 (.bool ((ax.names.length : Int) == (af.idx.names.length : Int))) ⟨(congrArg Value.bool (by rw [(fz_at1 ‹_› ‹_›).2.2]; exact beq_self_eq_true _)), C⟩
     refine .ns 1 3 [vI ac.next] fun km cX => ?_
     replace ⟨ae, O, J, E, aa, ab, C, W⟩ := (se [ag, ai, ah] cX).g8 ae O J E aa ab C W
     intro cY ko aV cZ ak eY
     have eZ := nb_new aV O.lt
     have e7 := nb_new aV J.lt
     have e8 := nb_new aV aa.lt
     have fa := gb_new aV C.size
     replace ⟨ae, J, E, ab, C, W⟩ := (se [ag, ai, ah] cZ).g6 ae J E ab C W
     refine .go 46 <| .ns 0 3 [] fun kr c7 => ?_
     replace ⟨ae, J, E, ab, ak, C, W⟩ := (se [ag, ai, ah] c7).g7 ae J E ab ak C W
     intro aY gj aM c8 fb fc
     have fd := nb_new aM J.lt
     have fe := nb_new aM ak.lt
     have ff := C.cn aM
     have c9 := W.cn aM
     replace ⟨ae, J, E, ab, ak, C, W⟩ := (sn [ag, ai, ah] c8 aM).g7 ae J E ab ak C W
     have bD : Own (α := Int) gj aY 3 (nin (fo F w.heap.size) [aY, ag, ai, ah]) 0 0 [] := Own.nil' fb
     refine .go 49 <| GE.append (T := 24) (ty := 24) (args := [vS aY 0 0, .slice dt ac.list.length du]) (by kernel_rfl) fun ks da => ?_
     replace ⟨ae, J, E, ab, ak, bD, C, W⟩ := (se [aY, ag, ai, ah] da).g8 ae J E ab ak bD C W
     obtain ⟨aZ, gk, kt, db, aH, aE, bE, fg⟩ := Own.appendF (P := Tryz.prog) (T := 24) (ty := 24) flat_int bD (by kernel_rfl) ae (fun b h e => h.2 (e ▸ (.head _))) (by have q1 : DD ac ∧ SD af := ‹_›; have q2 := q1.1.nl; omega)
     refine ⟨_, _, db, Chg.toS bE (Cov.toS c9), ?_⟩
     have ig := nb_or aE fd J.lt
     have de := nb_or aE fe ak.lt
     have ii := cov_or aE ff C.size
     have fh := cov_or aE c9 W.size
     replace ⟨J, E, ab, ak, C⟩ := (sa [aY, ag, ai, ah] bE aE).g5 J E ab ak C
     replace aH := aH.rn aY
     have ij := aH.len; have ik := aH.max
     refine .go 53 <| GE.append (T := 24) (ty := 24) (args := [vS aZ (0 + ac.list.length) gk, vS cY 1 1]) (by kernel_rfl) fun ku df => ?_
     replace ⟨J, E, ab, ak, aH, C⟩ := (se [aZ, ag, ai, ah] df).g6 J E ab ak aH C
     have bS : nin (fo F w.heap.size) [aZ, ag, ai, ah] cY ∧ cY ≠ aZ := hap_mk (.inr fa) (all_cons (Nb.symm de) (all_cons e8 (all_cons e7 (all_cons eZ all_nil)))) (Nb.symm de)
     obtain ⟨dI, kv, kw, dg, aW, bP, bF, fi⟩ := aH.append1 (P := Tryz.prog) (T := 24) (ty := 24) (y := ac.next) (by kernel_rfl) ak rfl bS (by have q1 : DD ac ∧ SD af := ‹_›; have q2 := q1.1.nl; omega)
     refine ⟨_, _, dg, Chg.toS bF (Cov.toS fh), ?_⟩
     replace ⟨J, E, ab, C⟩ := (sa [aZ, ag, ai, ah] bF bP).g4 J E ab C
     replace aW := aW.rn aZ
     have il := aW.len; have im := aW.max
     refine .go 54 <| .cl (fun dJ bj => c_laws_lyInts ax.list (([] ++ ac.list) ++ [ac.next]) (ab.ta.ext bj) ((aW.rep).ext bj) (w := dJ) (F := all)) ?_
     intro dJ bj
     replace ⟨J, E, C⟩ := (se [dI, ag, ai, ah] bj).g3 J E C
     rintro kx ky ⟨rfl, bG⟩
     have hkeep_ := bG
     replace ⟨J, E, C⟩ := (se [dI, ag, ai, ah] bG).g3 J E C
     refine ⟨Ext.chg hkeep_, ?_⟩
     have fj : (ax.list == (([] ++ ac.list) ++ [ac.next])) = true := (fz_list ‹_› ‹_›)
     rw [fj]
     refine .r [55, 56, 57] ?_
     have dh : 1 < (dflush ac af).length := (by omega)
     refine GA.idx (i := 58) 1 (len := (dflush ac af).length) (z := 1) (sz := 6) (by kernel_rfl) (by omega) dh (E.addr (Nat.zero_lt_of_lt dh)) <| .r [59] ?_
     obtain ⟨_, ⟨kz, kA, kB, kC, kD, kE, kF, kG, kH, kI, kJ, kK, rfl, gl, gm, gn, gp⟩, fk⟩ := E.elem 1 ax av
     have fm := gl.len
     subst fm
     have fp := gm.len
     subst fp
     have fq := gn.len
     subst fq
     have ft := gp.len
     subst ft
     refine .lh 60 5 fk (E.nS (pos_of av) all_nil) <| .r [61, 62, 63] <| .lb 64 J (nS_of all_nil bq) <| .r [65] <| .d fun kL dj => ?_
     replace C := (se [] dj).g1 C
     exact .r 3 <| .d <| .rt Tryz.func4 Tryz.results4 (.bool ((ax.names.length : Int) == (af.idx.names.length : Int))) ⟨(congrArg Value.bool (by rw [(fz_at1 ‹_› ‹_›).2.2]; exact beq_self_eq_true _)), C⟩
    refine .r [40, 41, 42, 43, 44, 45, 46, 47, 48, 49, 50, 51, 52, 53, 54, 55, 56] <| GA.skip (by kernel_rfl) fun kM dm => ?_
    replace C := (se [] dm).g1 C
    exact .r 3 <| .d <| .rt Tryz.func4 Tryz.results4 (.bool false) ⟨(congrArg Value.bool (by exfalso; have q2 := fz_2 ‹_›; (have q3 := fz_at1 ‹_› ‹_›; omega))), C⟩
   refine .r [21, 22, 23, 24, 25, 26, 27, 28, 29, 30, 31, 32, 33, 34, 35, 36, 37, 38, 39, 40, 41, 42, 43, 44, 45, 46, 47, 48, 49, 50, 51, 52, 53, 54, 55, 56] <| GA.skip (by kernel_rfl) fun kN dp => ?_
   replace C := (se [] dp).g1 C
   exact .r 3 <| .d <| .rt Tryz.func4 Tryz.results4 (.bool false) ⟨(congrArg Value.bool (by exfalso; have q2 := fz_2 ‹_›; (have q3 := fz_at ‹_› ‹_›; omega))), C⟩
  refine .r [12, 13, 14, 15, 16, 17, 18, 19, 20, 21, 22, 23, 24, 25, 26, 27, 28, 29, 30, 31, 32, 33, 34, 35, 36, 37, 38, 39, 40, 41, 42, 43, 44, 45, 46, 47, 48, 49, 50, 51, 52, 53, 54, 55, 56] <| GA.skip (by kernel_rfl) fun kO dq => ?_
  replace C := (se [] dq).g1 C
  exact .r 3 <| .d <| .rt Tryz.func4 Tryz.results4 (.bool false) ⟨(congrArg Value.bool (by exfalso; have q2 := fz_2 ‹_›; (have q3 := fz_at ‹_› ‹_›; omega))), C⟩
 refine .r [5, 6, 7, 8, 9, 10, 11, 12, 13, 14, 15, 16, 17, 18, 19, 20, 21, 22, 23, 24, 25, 26, 27, 28, 29, 30, 31, 32, 33, 34, 35, 36, 37, 38, 39, 40, 41, 42, 43, 44, 45, 46, 47, 48, 49, 50, 51, 52, 53, 54, 55, 56] <| GA.skip (by kernel_rfl) fun kP dr => ?_
 replace C := (se [] dr).g1 C
 exact .r 3 <| .d <| .rt Tryz.func4 Tryz.results4 (.bool false) ⟨(congrArg Value.bool (by exfalso; have q2 := fz_2 ‹_›; omega)), C⟩
end Go.Proofs.YtganlmloonielaaGreat
