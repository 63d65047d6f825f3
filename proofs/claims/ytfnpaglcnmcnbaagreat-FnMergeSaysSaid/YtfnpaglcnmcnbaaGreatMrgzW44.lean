/- walks; hints pruned; squeezed -/
import Derived.Test.YtfnpaglcnmcnbaaGreatMrgzMod42
set_option linter.unusedVariables false
set_option linter.unusedSimpArgs false
namespace Go.Proofs.YtfnpaglcnmcnbaaGreat
set_option maxRecDepth 100000
set_option maxHeartbeats 4000000
theorem c_laws_FnMergeSays (code : List UInt8) {w : World} {F : Nat → Prop} {a1 : Option Addr} {n1 c1 : Nat} (h1 : RepS w F a1 n1 c1 code)  : Calls Tryz.prog 11 [.slice a1 n1 c1].toArray w (rets fun rv w' => rv = .bool (true) ∧ Ext w w') := by
 refine goT Tryz.func11 ?_
 obtain ⟨rfl, ny, h1⟩ := h1.tp
 refine .s <| .g <| .r 1 <| .d <| .s <| .s <| .g <| .r 2 <| .bp ((code.length : Int) > 1048576) (fun jE => .d <| .ct <| .s <| .g <| .r 1 <| .d <| .rt Tryz.func11 Tryz.results11 (.bool true) ⟨(congrArg Value.bool (by rfl)), (Chg.refl _ _)⟩) fun jE => .d <| .cf <| .sk <| .s <| .g <| .r 1 <| .cl (c_spec_DrawStoreMerge code h1 (w := w) (F := nin (fo F w.heap.size) [])) ?_
 rintro sh sj ⟨⟨C, ae, ⟨sm, rfl, ⟨_, rfl, ⟨kB, sq, kC, kD, sr, kE, kF, su, kG, kH, sv, kI, rfl, ah, ai, af, aj⟩⟩⟩, nz⟩, f6⟩
 have bK : ∀ q_ ∈ ([] : List Nat), q_ < w.heap.size := all_nil
 have ej : Gb w.heap.size w.heap.size := (Nat.le_refl _)
 have J := f6
 clear f6
 replace ah := RepS.mixed' (M := []) ah bK ej
 have nA := ah.max
 replace ai := RepS.mixed' (M := []) ai bK ej
 have nB := ai.max
 replace af := RepS.mixed' (M := []) af bK ej
 have nC := af.max
 replace aj := RepS.mixed' (M := []) aj bK ej
 have nD := aj.max
 clear bK
 have jF := ah.len
 subst jF
 have jG := ai.len
 subst jG
 have jH := af.len
 subst jH
 have jI := aj.len
 subst jI
 refine .r 3 <| .np 30 [.slice none 0 0, .slice none 0 0, .slice none 0 0, .slice none 0 0] fun ak sw eF f7 jJ jK => ?_
 have nE := J.cn eF
 replace ⟨ah, ai, af, aj, J⟩ := (sn [] f7 eF).g5 ah ai af aj J
 clear f7 jK eF
 refine .sc [.slice kB C.idx.names.length kC, .slice kD C.idx.posts.length kE, .slice kF C.parts.length kG, .slice kH C.mem.length kI] jJ fun jL f8 V jM => ?_
 replace ⟨ah, ai, af, aj, J⟩ := (so [ak] f8).g5 ah ai af aj J
 clear f8 jM
 refine .r 1 <| .d <| .s <| .g <| .ln V <| .r 1 <| .cl (c_spec_StoreMerge C ae ah ai af aj (by have q1 : SD C ∧ (_ ∧ _) := (by assumption); exact q1.1) (w := jL) (F := nin (fo F w.heap.size) [ak])) ?_
 rintro sx sy ⟨⟨sA, rfl, ⟨_, rfl, ⟨kJ, sB, kK, kL, sC, kM, kN, sD, kO, kP, sE, kQ, rfl, aJ, aK, aL, aM⟩⟩⟩, f9⟩
 have bL := al1 V.lt
 have ek : Gb w.heap.size jL.heap.size := J.size
 replace ⟨ah, ai, af, aj, V, J⟩ := (se [ak] f9).g6 ah ai af aj V J
 clear f9
 replace aJ := RepS.mixed' (M := [ak]) aJ bL ek
 have nF := aJ.max
 replace aK := RepS.mixed' (M := [ak]) aK bL ek
 have nG := aK.max
 replace aL := RepS.mixed' (M := [ak]) aL bL ek
 have nH := aL.max
 replace aM := RepS.mixed' (M := [ak]) aM bL ek
 have nI := aM.max
 clear bL
 have jN := aJ.len
 subst jN
 have jO := aK.len
 subst jO
 have jP := aL.len
 subst jP
 have jQ := aM.len
 subst jQ
 refine .r 3 <| .np 30 [.slice none 0 0, .slice none 0 0, .slice none 0 0, .slice none 0 0] fun al sF em ga gv gw => ?_
 have kR := nb_new em V.lt
 have kS := J.cn em
 replace ⟨ah, ai, af, aj, V, aJ, aK, aL, aM, J⟩ := (sn [ak] ga em).g10 ah ai af aj V aJ aK aL aM J
 clear ga gw em
 refine .sc [.slice kJ (((((mergeT C ae).1).idx).names).length) kK, .slice kL (((((mergeT C ae).1).idx).posts).length) kM, .slice kN ((((mergeT C ae).1).parts).length) kO, .slice kP ((((mergeT C ae).1).mem).length) kQ] gv fun gb eG ac gx => ?_
 replace ⟨ah, ai, af, aj, V, aJ, aK, aL, aM, J⟩ := (so [al, ak] eG).g10 ah ai af aj V aJ aK aL aM J
 clear eG gx
 refine .r 1 <| .d <| .s <| .g <| .ln V <| .r 1 <| .cl (c_impl_StoreMerge C ae ah ai af aj (by have q1 : SD C ∧ (_ ∧ _) := (by assumption); exact q1.1) (w := gb) (F := nin (fo F w.heap.size) [al, ak])) ?_
 rintro nJ nK ⟨⟨nL, rfl, ⟨_, rfl, ⟨gf, nM, gg, gh, nN, gi, gj, nO, gk, gl, nP, gm, rfl, W, Z, O, aa⟩⟩⟩, eH⟩
 have bt := al2 ac.lt V.lt
 have bv : Gb w.heap.size gb.heap.size := J.size
 replace ⟨ah, ai, af, aj, V, aJ, aK, aL, aM, ac, J⟩ := (se [al, ak] eH).g11 ah ai af aj V aJ aK aL aM ac J
 clear eH
 replace W := RepS.mixed' (M := [al, ak]) W bt bv
 replace Z := RepS.mixed' (M := [al, ak]) Z bt bv
 replace O := RepS.mixed' (M := [al, ak]) O bt bv
 replace aa := RepS.mixed' (M := [al, ak]) aa bt bv
 clear bt
 have gy := W.len
 subst gy
 have gz := Z.len
 subst gz
 have gA := O.len
 subst gA
 have gC := aa.len
 subst gC
 refine .r 2 ?_
 cases kT : (mergeT C ae).2
 ·refine .r 1 <| .np 30 [.slice none 0 0, .slice none 0 0, .slice none 0 0, .slice none 0 0] fun aS nQ bd cq gD gE => ?_
  have kU := nb_new bd V.lt
  have kV := nb_new bd ac.lt
  have kW := J.cn bd
  replace ⟨ah, ai, af, aj, V, aJ, aK, aL, aM, ac, W, Z⟩ := (sn [al, ak] cq bd).g12 ah ai af aj V aJ aK aL aM ac W Z
  replace ⟨O, aa, J⟩ := (sn [al, ak] cq bd).g3 O aa J
  clear cq gE bd
  refine .sc [.slice gf (((((mergeT C ae).1).idx).names).length) gg, .slice gh (((((mergeT C ae).1).idx).posts).length) gi, .slice gj ((((mergeT C ae).1).parts).length) gk, .slice gl ((((mergeT C ae).1).mem).length) gm] gD fun jR cr aQ gF => ?_
  replace ⟨ah, ai, af, aj, V, aJ, aK, aL, aM, ac, W, Z⟩ := (so [aS, al, ak] cr).g12 ah ai af aj V aJ aK aL aM ac W Z
  replace ⟨O, aa, J⟩ := (so [aS, al, ak] cr).g3 O aa J
  clear cr gF
  refine .r 1 <| .d <| .s <| .s <| .g <| .r 2 <| RG.eqv (v := .bool false) (v' := .bool (false != false)) (by kernel_rfl) (by simp) <| .r 1 <| .ln aQ <| .ln ac <| .cl (c_laws_lyStore (⟨(⟨(((mergeT C ae).1).idx).names, (((mergeT C ae).1).idx).posts⟩ : Idx), ((mergeT C ae).1).parts, ((mergeT C ae).1).mem⟩ : Sto) (⟨(⟨(((mergeT C ae).1).idx).names, (((mergeT C ae).1).idx).posts⟩ : Idx), ((mergeT C ae).1).parts, ((mergeT C ae).1).mem⟩ : Sto) W.ta Z.ta O.ta aa.ta aJ.ta aK.ta aL.ta aM.ta (w := jR) (F := all)) ?_
  rintro nR gn ⟨rfl, cu⟩
  replace ⟨ah, ai, af, aj, V, aJ, aK, aL, aM, ac, W, Z⟩ := (se [aS, al, ak] cu).g12 ah ai af aj V aJ aK aL aM ac W Z
  replace ⟨O, aa, aQ, J⟩ := (se [aS, al, ak] cu).g4 O aa aQ J
  clear cu
  cases kX : ((⟨(⟨(((mergeT C ae).1).idx).names, (((mergeT C ae).1).idx).posts⟩ : Idx), ((mergeT C ae).1).parts, ((mergeT C ae).1).mem⟩ : Sto) == (⟨(⟨(((mergeT C ae).1).idx).names, (((mergeT C ae).1).idx).posts⟩ : Idx), ((mergeT C ae).1).parts, ((mergeT C ae).1).mem⟩ : Sto))
  ·refine .r 7 <| .d <| .ct <| .s <| .g <| .r 2 <| RG.eqv (v := .bool true) (v' := .bool (false == false)) (by kernel_rfl) (by simp) <| .r 1 <| .ln aQ <| .ln ac <| .cl (c_laws_lyStore (⟨(⟨(((mergeT C ae).1).idx).names, (((mergeT C ae).1).idx).posts⟩ : Idx), ((mergeT C ae).1).parts, ((mergeT C ae).1).mem⟩ : Sto) (⟨(⟨(((mergeT C ae).1).idx).names, (((mergeT C ae).1).idx).posts⟩ : Idx), ((mergeT C ae).1).parts, ((mergeT C ae).1).mem⟩ : Sto) W.ta Z.ta O.ta aa.ta aJ.ta aK.ta aL.ta aM.ta (w := gn) (F := all)) ?_
   rintro nT nU ⟨rfl, cv⟩
   replace ⟨ah, ai, af, aj, V, aJ, aK, aL, aM, ac, W, Z⟩ := (se [aS, al, ak] cv).g12 ah ai af aj V aJ aK aL aM ac W Z
   replace ⟨O, aa, aQ, J⟩ := (se [aS, al, ak] cv).g4 O aa aQ J
   clear cv
   exact .r 2 <| .d <| .rt Tryz.func11 Tryz.results11 (.bool ((⟨(⟨(((mergeT C ae).1).idx).names, (((mergeT C ae).1).idx).posts⟩ : Idx), ((mergeT C ae).1).parts, ((mergeT C ae).1).mem⟩ : Sto) == (⟨(⟨(((mergeT C ae).1).idx).names, (((mergeT C ae).1).idx).posts⟩ : Idx), ((mergeT C ae).1).parts, ((mergeT C ae).1).mem⟩ : Sto))) ⟨(congrArg Value.bool (by (simp_all; done))), J⟩
  refine .r 3 <| .ln V <| .cl (c_spec_StoreOk C ah.ta ai.ta af.ta aj.ta (by have q1 : SD C ∧ (_ ∧ _) := (by assumption); exact q1.1) (w := gn) (F := all)) ?_
  rintro nV gp ⟨rfl, cw⟩
  replace ⟨ah, ai, af, aj, V, aJ, aK, aL, aM, ac, W, Z⟩ := (se [aS, al, ak] cw).g12 ah ai af aj V aJ aK aL aM ac W Z
  replace ⟨O, aa, aQ, J⟩ := (se [aS, al, ak] cw).g4 O aa aQ J
  clear cw
  cases kY : (storeOk C)
  ·refine .r 2 <| .d <| .ct <| .s <| .g <| .r 2 <| RG.eqv (v := .bool true) (v' := .bool (false == false)) (by kernel_rfl) (by simp) <| .r 1 <| .ln aQ <| .ln ac <| .cl (c_laws_lyStore (⟨(⟨(((mergeT C ae).1).idx).names, (((mergeT C ae).1).idx).posts⟩ : Idx), ((mergeT C ae).1).parts, ((mergeT C ae).1).mem⟩ : Sto) (⟨(⟨(((mergeT C ae).1).idx).names, (((mergeT C ae).1).idx).posts⟩ : Idx), ((mergeT C ae).1).parts, ((mergeT C ae).1).mem⟩ : Sto) W.ta Z.ta O.ta aa.ta aJ.ta aK.ta aL.ta aM.ta (w := gp) (F := all)) ?_
   rintro nW nX ⟨rfl, cx⟩
   replace ⟨ah, ai, af, aj, V, aJ, aK, aL, aM, ac, W, Z⟩ := (se [aS, al, ak] cx).g12 ah ai af aj V aJ aK aL aM ac W Z
   replace ⟨O, aa, aQ, J⟩ := (se [aS, al, ak] cx).g4 O aa aQ J
   clear cx
   exact .r 2 <| .d <| .rt Tryz.func11 Tryz.results11 (.bool ((⟨(⟨(((mergeT C ae).1).idx).names, (((mergeT C ae).1).idx).posts⟩ : Idx), ((mergeT C ae).1).parts, ((mergeT C ae).1).mem⟩ : Sto) == (⟨(⟨(((mergeT C ae).1).idx).names, (((mergeT C ae).1).idx).posts⟩ : Idx), ((mergeT C ae).1).parts, ((mergeT C ae).1).mem⟩ : Sto))) ⟨(congrArg Value.bool (by (simp_all; done))), J⟩
  refine .r 2 <| .d <| .cf <| .sk <| .s <| .s <| .g <| .r 2 <| .d <| .ct <| .s <| .g <| .ln aQ <| .ln V <| .cl (c_laws_lyStore (⟨(⟨(((mergeT C ae).1).idx).names, (((mergeT C ae).1).idx).posts⟩ : Idx), ((mergeT C ae).1).parts, ((mergeT C ae).1).mem⟩ : Sto) C W.ta Z.ta O.ta aa.ta ah.ta ai.ta af.ta aj.ta (w := gp) (F := all)) ?_
  rintro nY nZ ⟨rfl, cy⟩
  replace ⟨ah, ai, af, aj, V, aJ, aK, aL, aM, ac, W, Z⟩ := (se [aS, al, ak] cy).g12 ah ai af aj V aJ aK aL aM ac W Z
  replace ⟨O, aa, J⟩ := (se [aS, al, ak] cy).g3 O aa J
  clear cy
  cases kZ : ((⟨(⟨(((mergeT C ae).1).idx).names, (((mergeT C ae).1).idx).posts⟩ : Idx), ((mergeT C ae).1).parts, ((mergeT C ae).1).mem⟩ : Sto) == C)
  ·exact .r 13 <| .d <| .rt Tryz.func11 Tryz.results11 (.bool false) ⟨(congrArg Value.bool (by have q1 : SD C ∧ (_ ∧ _) := (by assumption); exfalso; (have q2 := mgT_no q1.1 (by assumption) (by assumption); have q3 := q2.2; simp_all [sto_eta]; done))), J⟩
  exact .r 2 <| .bp (ae < 0) (fun gG => .r 10 <| .d <| .rt Tryz.func11 Tryz.results11 (.bool true) ⟨(congrArg Value.bool (by rfl)), J⟩) fun gG => .r 2 <| RG.int (ae + 1) (by kernel_rfl) (by omega) <| .r 1 <| .lb V <| .r 5 <| .d <| .rt Tryz.func11 Tryz.results11 (.bool (decide (ae + 1 ≥ (C.parts.length : Int)))) ⟨(congrArg Value.bool (by (have q1 : SD C ∧ (_ ∧ _) := (by assumption); have q2 := mgT_no q1.1 (by assumption) (by assumption); have q3 := q2.2; simp_all [sto_eta]; omega))), J⟩
 refine .r 1 <| .np 30 [.slice none 0 0, .slice none 0 0, .slice none 0 0, .slice none 0 0] fun ag n7 bg cz gH gI => ?_
 have k0 := nb_new bg V.lt
 have k4 := nb_new bg ac.lt
 have k5 := J.cn bg
 replace ⟨ah, ai, af, aj, V, aJ, aK, aL, aM, ac, W, Z⟩ := (sn [al, ak] cz bg).g12 ah ai af aj V aJ aK aL aM ac W Z
 replace ⟨O, aa, J⟩ := (sn [al, ak] cz bg).g3 O aa J
 clear cz gI bg
 refine .sc [.slice gf (((((mergeT C ae).1).idx).names).length) gg, .slice gh (((((mergeT C ae).1).idx).posts).length) gi, .slice gj ((((mergeT C ae).1).parts).length) gk, .slice gl ((((mergeT C ae).1).mem).length) gm] gH fun jS cA E gJ => ?_
 replace ⟨ah, ai, af, aj, V, aJ, aK, aL, aM, ac, W, Z⟩ := (so [ag, al, ak] cA).g12 ah ai af aj V aJ aK aL aM ac W Z
 replace ⟨O, aa, J⟩ := (so [ag, al, ak] cA).g3 O aa J
 clear cA gJ
 refine .r 1 <| .d <| .s <| .s <| .g <| .r 2 <| RG.eqv (v := .bool false) (v' := .bool (true != true)) (by kernel_rfl) (by simp) <| .r 1 <| .ln E <| .ln ac <| .cl (c_laws_lyStore (⟨(⟨(((mergeT C ae).1).idx).names, (((mergeT C ae).1).idx).posts⟩ : Idx), ((mergeT C ae).1).parts, ((mergeT C ae).1).mem⟩ : Sto) (⟨(⟨(((mergeT C ae).1).idx).names, (((mergeT C ae).1).idx).posts⟩ : Idx), ((mergeT C ae).1).parts, ((mergeT C ae).1).mem⟩ : Sto) W.ta Z.ta O.ta aa.ta aJ.ta aK.ta aL.ta aM.ta (w := jS) (F := all)) ?_
 rintro n8 gq ⟨rfl, cB⟩
 replace ⟨ah, ai, af, aj, V, aJ, aK, aL, aM, ac, W, Z⟩ := (se [ag, al, ak] cB).g12 ah ai af aj V aJ aK aL aM ac W Z
 replace ⟨O, aa, E, J⟩ := (se [ag, al, ak] cB).g4 O aa E J
 clear cB
 cases k6 : ((⟨(⟨(((mergeT C ae).1).idx).names, (((mergeT C ae).1).idx).posts⟩ : Idx), ((mergeT C ae).1).parts, ((mergeT C ae).1).mem⟩ : Sto) == (⟨(⟨(((mergeT C ae).1).idx).names, (((mergeT C ae).1).idx).posts⟩ : Idx), ((mergeT C ae).1).parts, ((mergeT C ae).1).mem⟩ : Sto))
 ·refine .r 7 <| .d <| .ct <| .s <| .g <| .r 2 <| RG.eqv (v := .bool true) (v' := .bool (true == true)) (by kernel_rfl) (by simp) <| .r 1 <| .ln E <| .ln ac <| .cl (c_laws_lyStore (⟨(⟨(((mergeT C ae).1).idx).names, (((mergeT C ae).1).idx).posts⟩ : Idx), ((mergeT C ae).1).parts, ((mergeT C ae).1).mem⟩ : Sto) (⟨(⟨(((mergeT C ae).1).idx).names, (((mergeT C ae).1).idx).posts⟩ : Idx), ((mergeT C ae).1).parts, ((mergeT C ae).1).mem⟩ : Sto) W.ta Z.ta O.ta aa.ta aJ.ta aK.ta aL.ta aM.ta (w := gq) (F := all)) ?_
  rintro n9 oa ⟨rfl, cC⟩
  replace ⟨ah, ai, af, aj, V, aJ, aK, aL, aM, ac, W, Z⟩ := (se [ag, al, ak] cC).g12 ah ai af aj V aJ aK aL aM ac W Z
  replace ⟨O, aa, E, J⟩ := (se [ag, al, ak] cC).g4 O aa E J
  clear cC
  exact .r 2 <| .d <| .rt Tryz.func11 Tryz.results11 (.bool ((⟨(⟨(((mergeT C ae).1).idx).names, (((mergeT C ae).1).idx).posts⟩ : Idx), ((mergeT C ae).1).parts, ((mergeT C ae).1).mem⟩ : Sto) == (⟨(⟨(((mergeT C ae).1).idx).names, (((mergeT C ae).1).idx).posts⟩ : Idx), ((mergeT C ae).1).parts, ((mergeT C ae).1).mem⟩ : Sto))) ⟨(congrArg Value.bool (by (simp_all; done))), J⟩
 refine .r 3 <| .ln V <| .cl (c_spec_StoreOk C ah.ta ai.ta af.ta aj.ta (by have q1 : SD C ∧ (_ ∧ _) := (by assumption); exact q1.1) (w := gq) (F := all)) ?_
 rintro oc bu ⟨rfl, cD⟩
 replace ⟨ah, ai, af, aj, V, aJ, aK, aL, aM, ac, W, Z⟩ := (se [ag, al, ak] cD).g12 ah ai af aj V aJ aK aL aM ac W Z
 replace ⟨O, aa, E, J⟩ := (se [ag, al, ak] cD).g4 O aa E J
 clear cD
 cases k7 : (storeOk C)
 ·refine .r 2 <| .d <| .ct <| .s <| .g <| .r 2 <| RG.eqv (v := .bool true) (v' := .bool (true == true)) (by kernel_rfl) (by simp) <| .r 1 <| .ln E <| .ln ac <| .cl (c_laws_lyStore (⟨(⟨(((mergeT C ae).1).idx).names, (((mergeT C ae).1).idx).posts⟩ : Idx), ((mergeT C ae).1).parts, ((mergeT C ae).1).mem⟩ : Sto) (⟨(⟨(((mergeT C ae).1).idx).names, (((mergeT C ae).1).idx).posts⟩ : Idx), ((mergeT C ae).1).parts, ((mergeT C ae).1).mem⟩ : Sto) W.ta Z.ta O.ta aa.ta aJ.ta aK.ta aL.ta aM.ta (w := bu) (F := all)) ?_
  rintro od oe ⟨rfl, eI⟩
  replace ⟨ah, ai, af, aj, V, ac, W, Z, O, aa, E, J⟩ := (se [ag, al, ak] eI).g12 ah ai af aj V ac W Z O aa E J
  clear eI
  exact .r 2 <| .d <| .rt Tryz.func11 Tryz.results11 (.bool ((⟨(⟨(((mergeT C ae).1).idx).names, (((mergeT C ae).1).idx).posts⟩ : Idx), ((mergeT C ae).1).parts, ((mergeT C ae).1).mem⟩ : Sto) == (⟨(⟨(((mergeT C ae).1).idx).names, (((mergeT C ae).1).idx).posts⟩ : Idx), ((mergeT C ae).1).parts, ((mergeT C ae).1).mem⟩ : Sto))) ⟨(congrArg Value.bool (by (simp_all; done))), J⟩
 refine .r 2 <| .d <| .cf <| .sk <| .s <| .s <| .g <| .r 2 <| .d <| .cf <| .sk <| .s ?_
 replace ah := ah.into
 replace ai := ai.into
 replace af := af.into
 replace aj := aj.into
 replace W := W.into
 replace Z := Z.into
 replace O := O.into
 replace aa := aa.into
 have eJ : Gb (ak + 1) bu.heap.size := V.lt
 refine .gd (mtb [] bu.heap.size) 17 fun jT cE => ?_
 replace ⟨ah, ai, af, aj, V, ac, W, Z, O, aa, E, J⟩ := (se [ag, al, ak] cE).g12 ah ai af aj V ac W Z O aa E J
 have aA : Chg (mtb [] bu.heap.size) bu jT := Chg.stepN (Chg.refl (mtb [] bu.heap.size) bu) cE
 clear cE
 refine .r [0] <| .lb 1 V (nS_of all_nil eJ) <| .r [2] ?_
 have eK : (ae).toNat < C.parts.length := (by (have q1 : SD C ∧ (_ ∧ _) := (by assumption); have q2 := merge_len q1.1 (by assumption); omega))
 refine GA.idx (i := 3) ((ae).toNat) (len := C.parts.length) (z := ae) (sz := 2) (by kernel_rfl) (by (have q1 : SD C ∧ (_ ∧ _) := (by assumption); have q2 := merge_len q1.1 (by assumption); omega)) eK (af.addr (Nat.zero_lt_of_lt eK)) ?_
 obtain ⟨aN, bw⟩ : ∃ y, C.parts[(ae).toNat]? = some y := ⟨_, List.getElem?_eq_getElem (by omega)⟩
 have k8 := drop_at bw; have jU := List.mem_of_getElem? bw
 obtain ⟨_, ⟨og, oh, ol, om, oo, oq, rfl, am, ao⟩, gK⟩ := af.elem ((ae).toNat) aN bw
 have gL := am.len
 subst gL
 have k9 := am.max
 have gM := ao.len
 subst gM
 have lc := ao.max
 refine .lg 4 0 gK (af.nS (pos_of bw) all_nil) <| .r [5] <| .lb 6 V (nS_of all_nil eJ) <| .r [7] <| GA.int (i := 8) (ae + 1) (by kernel_rfl) (by omega) ?_
 have eL : (ae + 1).toNat < C.parts.length := (by (have q1 : SD C ∧ (_ ∧ _) := (by assumption); have q2 := merge_len q1.1 (by assumption); omega))
 refine GA.idx (i := 9) ((ae + 1).toNat) (len := C.parts.length) (z := ae + 1) (sz := 2) (by kernel_rfl) (by (have q1 : SD C ∧ (_ ∧ _) := (by assumption); have q2 := merge_len q1.1 (by assumption); omega)) eL (af.addr (Nat.zero_lt_of_lt eL)) ?_
 obtain ⟨aO, bz⟩ : ∃ y, C.parts[(ae + 1).toNat]? = some y := ⟨_, List.getElem?_eq_getElem (by omega)⟩
 have ld := drop_at bz; have jV := List.mem_of_getElem? bz
 obtain ⟨_, ⟨ou, ov, ow, oz, oA, oB, rfl, aq, ar⟩, gN⟩ := af.elem ((ae + 1).toNat) aO bz
 have gO := aq.len
 subst gO
 have lf := aq.max
 have gP := ar.len
 subst gP
 have li := ar.max
 refine .lg 10 0 gN (af.nS (pos_of bz) all_nil) <| .tw 11 15 ?_ ?_
 ·refine .cl (fun eM aZ => c_impl_PartMerge aN aO (am.ta.ext aZ) (ao.ta.ext aZ) (aq.ta.ext aZ) (ar.ta.ext aZ) (by have q1 : SD C ∧ (_ ∧ _) := (by assumption); exact (q1.1.part _ (by assumption)).sz) (by have q1 : SD C ∧ (_ ∧ _) := (by assumption); exact (q1.1.part _ (by assumption)).sz) (w := eM) (F := all)) ?_
  intro eM aZ
  replace ⟨ah, ai, af, aj, V, ac, W, Z, O, aa, E, am⟩ := (se [ag, al, ak] aZ).g12 ah ai af aj V ac W Z O aa E am
  replace ⟨ao, aq, ar, J, aA⟩ := (se [ag, al, ak] aZ).g5 ao aq ar J aA
  rintro oC oD ⟨⟨oE, rfl, ⟨_, rfl, ⟨en, oF, eo, es, oG, et, rfl, av, aw⟩⟩⟩, bA⟩
  have cF := al3 E.lt ac.lt V.lt
  have eN : Gb w.heap.size eM.heap.size := J.size
  have hkeep_ := bA
  replace ⟨ah, ai, af, aj, V, ac, W, Z, O, aa, E, am⟩ := (se [ag, al, ak] bA).g12 ah ai af aj V ac W Z O aa E am
  replace ⟨ao, aq, ar, J, aA⟩ := (se [ag, al, ak] bA).g5 ao aq ar J aA
  clear bA
  refine ⟨Ext.chg hkeep_, ?_⟩
  have av := av.fr cF eN
  replace av := av.base (G' := fo F w.heap.size) (fun _ _ h => .inr h)
  have lj := av.max
  have aw := aw.fr cF eN
  replace aw := aw.base (G' := fo F w.heap.size) (fun _ _ h => .inr h)
  have lk := aw.max
  clear cF
  have gQ := av.len
  subst gQ
  have gR := aw.len
  subst gR
  refine .r [12, 13] ?_
  cases ll : (mergQ aN aO).2
  ·refine .r [14] <| .go 15 <| .nw (fun b => .pointer (some ⟨b, 0, none⟩)) 75 [.slice none 0 0, .slice none 0 0] fun oH cG => ?_
   replace ⟨ah, ai, af, aj, V, ac, W, Z, O, aa, E, am⟩ := (se [ag, al, ak] cG).g12 ah ai af aj V ac W Z O aa E am
   replace ⟨ao, aq, ar, av, aw, J, aA⟩ := (se [ag, al, ak] cG).g7 ao aq ar av aw J aA
   clear cG
   intro aI oI aT cH gS gT
   have lm := nb_new aT V.lt
   have lp := nb_new aT ac.lt
   have lq := nb_new aT E.lt
   have ls := J.cn aT
   have gU := aA.cn aT
   replace ⟨ah, ai, af, aj, V, ac, W, Z, O, aa, E, am⟩ := (sn [ag, al, ak] cH aT).g12 ah ai af aj V ac W Z O aa E am
   replace ⟨ao, aq, ar, av, aw, J, aA⟩ := (sn [ag, al, ak] cH aT).g7 ao aq ar av aw J aA
   clear cH gT aT
   refine .go 16 <| GE.storeB (t' := 75) (o := 0) (v := .agg #[.slice en ((((mergQ aN aO).1).ids).length) eo, .slice es ((((mergQ aN aO).1).blocks).length) et]) [.slice en ((((mergQ aN aO).1).ids).length) eo, .slice es ((((mergQ aN aO).1).blocks).length) et] gS (by kernel_rfl) (by kernel_rfl) (by kernel_rfl) fun oJ cI => ?_
   replace ⟨ah, ai, af, aj, V, ac, W, Z, O, aa, E, am⟩ := (se [aI, ag, al, ak] cI).g12 ah ai af aj V ac W Z O aa E am
   replace ⟨ao, aq, ar, av, aw, J, aA⟩ := (se [aI, ag, al, ak] cI).g7 ao aq ar av aw J aA
   clear cI
   intro oK bB lu gV
   have hkeep_ := Chg.toS bB (Cov.toS gU)
   clear gV
   replace ⟨ah, ai, af, aj, V, ac, W, Z, O, aa, E, am⟩ := (so [aI, ag, al, ak] bB).g12 ah ai af aj V ac W Z O aa E am
   replace ⟨ao, aq, ar, av, aw, J, aA⟩ := (so [aI, ag, al, ak] bB).g7 ao aq ar av aw J aA
   clear bB
   refine ⟨hkeep_, ?_⟩
   refine .d fun gr cJ => ?_
   replace ⟨ah, ai, af, aj, V, ac, W, Z, O, aa, E, am⟩ := (se [aI, ag, al, ak] cJ).g12 ah ai af aj V ac W Z O aa E am
   replace ⟨ao, aq, ar, av, aw, J, aA⟩ := (se [aI, ag, al, ak] cJ).g7 ao aq ar av aw J aA
   clear cJ
   replace ah := ah.outof
   replace ai := ai.outof
   replace af := af.outof
   replace aj := aj.outof
   replace W := W.outof
   replace Z := Z.outof
   replace O := O.outof
   replace aa := aa.outof
   replace am := am.outof
   replace ao := ao.outof
   replace aq := aq.outof
   replace ar := ar.outof
   refine .r 1 <| .d <| .s <| .s <| .g <| .r 1 <| .d <| .b 0 <| T.loop (X := Nat) 0 (fun k => [(3, .pointer (some ⟨ak, 0, none⟩)), (4, vI ae), (7, .pointer (some ⟨ag, 0, none⟩)), (9, .pointer (some ⟨aI, 0, none⟩)), (10, .bool false), (11, vI (k : Int))]) (fun k eO => Chg (ins []) gr eO ∧ (k ≤ (mergeT C ae).1.parts.length)) (fun k => (mergeT C ae).1.parts.length - k) (by kernel_rfl) ⟨by kernel_rfl, by kernel_rfl, by kernel_rfl, by kernel_rfl, by kernel_rfl, by kernel_rfl, trivial⟩ ⟨Chg.refl _ _, (by omega)⟩ ?_
   rintro k oL eO ⟨aC, lv⟩ aV
   have cK : Mv [aI, ag, al, ak] [aI, ag, al, ak] gr eO := Mv.inl aC all_nil (all_cons (.inl (.head _)) (all_cons (.inl (.tail _ (.head _))) (all_cons (.inl (.tail _ (.tail _ (.head _)))) (all_cons (.inl (.tail _ (.tail _ (.tail _ (.head _))))) all_nil))))
   replace ⟨ah, ai, af, aj, V, ac, W, Z, O, aa, E, am⟩ := (sp cK aC).g12 ah ai af aj V ac W Z O aa E am
   replace ⟨ao, aq, ar, av, aw, J⟩ := (sp cK aC).g6 ao aq ar av aw J
   clear cK
   refine .s <| .s <| .g <| .r 2 <| .lb E <| .r 1 <| .bp ((k : Int) < (((((mergeT C ae).1).parts).length) : Int)) (fun gW => ?_) (fun gW => ?_)
   ·refine .d <| .ct <| .sk <| .s <| .b 1 <| .s <| .gd nil 33 fun oM cL => ?_
    replace ⟨ah, ai, af, aj, V, ac, W, Z, O, aa, E, am⟩ := (se [aI, ag, al, ak] cL).g12 ah ai af aj V ac W Z O aa E am
    replace ⟨ao, aq, ar, av, aw, J, aC⟩ := (se [aI, ag, al, ak] cL).g7 ao aq ar av aw J aC
    clear cL
    refine .r [0, 1] <| GA.boolP (i := 2) ((k : Int) < ae) (by kernel_rfl) (fun gX => ?_) (fun gX => ?_)
    ·refine .r [3, 4] <| .lb 5 E id <| .r [6] ?_
     have eP : k < (((mergeT C ae).1).parts).length := (by omega)
     refine GA.idx (i := 7) k (len := (((mergeT C ae).1).parts).length) (z := (k : Int)) (sz := 2) (by kernel_rfl) (by omega) eP (O.addr (Nat.zero_lt_of_lt eP)) ?_
     obtain ⟨bM, cM⟩ : ∃ y, (((mergeT C ae).1).parts)[k]? = some y := ⟨_, List.getElem?_eq_getElem (by omega)⟩
     have lw := drop_at cM; have jW := List.mem_of_getElem? cM
     obtain ⟨_, ⟨oN, oO, oP, oQ, oR, oS, rfl, bh, bi⟩, eQ⟩ := O.elem k bM cM
     have gY := bh.len
     subst gY
     have ly := bh.max
     have gZ := bi.len
     subst gZ
     have lz := bi.max
     refine .lg 8 0 eQ id <| .r [9] <| .lb 10 V id <| .r [11] ?_
     have eR : k < C.parts.length := (by omega)
     refine GA.idx (i := 12) k (len := C.parts.length) (z := (k : Int)) (sz := 2) (by kernel_rfl) (by omega) eR (af.addr (Nat.zero_lt_of_lt eR)) ?_
     obtain ⟨eS, cN⟩ : ∃ y, C.parts[k]? = some y := ⟨_, List.getElem?_eq_getElem (by omega)⟩
     have lA := drop_at cN; have jX := List.mem_of_getElem? cN
     obtain ⟨_, ⟨oT, oU, oV, oW, oX, oY, rfl, eT, eU⟩, g0⟩ := af.elem k eS cN
     have hC := eT.len
     subst hC
     have lB := eT.max
     have hD := eU.len
     subst hD
     have lC := eU.max
     refine .lg 13 0 g0 id <| GA.call1 (i := 14) (by kernel_rfl) (fun jY bC => c_laws_lyPart bM eS (bh.ta.ext bC) (bi.ta.ext bC) (eT.ta.ext bC) (eU.ta.ext bC) (w := jY) (F := all)) ?_
     cases lD : (bM == eS)
     ·refine .r [15, 16, 17, 18, 19, 20, 21, 22, 23, 24, 25, 26, 27, 28, 29, 30, 31, 32] <| .d fun oZ cO => ?_
      replace ⟨ah, ai, af, aj, V, ac, W, Z, O, aa, E, am⟩ := (se [aI, ag, al, ak] cO).g12 ah ai af aj V ac W Z O aa E am
      replace ⟨ao, aq, ar, av, aw, bh, bi, J, aC⟩ := (se [aI, ag, al, ak] cO).g9 ao aq ar av aw bh bi J aC
      clear cO
      exact .r 4 <| .d <| .ct <| .s <| .g <| .r 1 <| .d <| .rt Tryz.func11 Tryz.results11 (.bool false) ⟨(congrArg Value.bool (by have q1 : SD C ∧ (_ ∧ _) := (by assumption); exfalso; exact merge_lo q1.1 (by assumption) (by assumption) (by assumption) (by assumption) (by assumption))), J⟩
     refine .r [15, 16, 17, 18, 19] <| GA.boolP (i := 20) ((k : Int) > ae) (by kernel_rfl) (fun hE => ?_) (fun hE => ?_)
     ·refine .r [21, 22] <| .lb 23 E id <| .r [24] ?_
      have eV : k < (((mergeT C ae).1).parts).length := (by omega)
      refine GA.idx (i := 25) k (len := (((mergeT C ae).1).parts).length) (z := (k : Int)) (sz := 2) (by kernel_rfl) (by omega) eV (O.addr (Nat.zero_lt_of_lt eV)) <| .lg 26 0 eQ id <| .r [27] <| .lb 28 V id <| .r [29] <| GA.int (i := 30) ((k : Int) + 1) (by kernel_rfl) (by omega) ?_
      have eW : k + 1 < C.parts.length := (by omega)
      refine GA.idx (i := 31) (k + 1) (len := C.parts.length) (z := (k : Int) + 1) (sz := 2) (by kernel_rfl) (by omega) eW (af.addr (Nat.zero_lt_of_lt eW)) ?_
      obtain ⟨eX, cP⟩ : ∃ y, C.parts[k + 1]? = some y := ⟨_, List.getElem?_eq_getElem (by omega)⟩
      have lE := drop_at cP; have jZ := List.mem_of_getElem? cP
      obtain ⟨_, ⟨o0, o1, o2, o3, o4, o5, rfl, bN, bO⟩, hH⟩ := af.elem (k + 1) eX cP
      have hJ := bN.len
      subst hJ
      have lF := bN.max
      have hN := bO.len
      subst hN
      have lG := bO.max
      refine .lg 32 0 hH id <| .d fun j0 cQ => ?_
      replace ⟨ah, ai, af, aj, V, ac, W, Z, O, aa, E, am⟩ := (se [aI, ag, al, ak] cQ).g12 ah ai af aj V ac W Z O aa E am
      replace ⟨ao, aq, ar, av, aw, bh, bi, bN, bO, J, aC⟩ := (se [aI, ag, al, ak] cQ).g11 ao aq ar av aw bh bi bN bO J aC
      clear cQ
      refine .cl (c_laws_lyPart bM eX bh.ta bi.ta bN.ta bO.ta (w := j0) (F := all)) ?_
      rintro o6 o7 ⟨rfl, cR⟩
      replace ⟨ah, ai, af, aj, V, ac, W, Z, O, aa, E, am⟩ := (se [aI, ag, al, ak] cR).g12 ah ai af aj V ac W Z O aa E am
      replace ⟨ao, aq, ar, av, aw, J, aC⟩ := (se [aI, ag, al, ak] cR).g7 ao aq ar av aw J aC
      clear cR
      cases lH : (bM == eX)
      ·exact .r 3 <| .d <| .ct <| .s <| .g <| .r 1 <| .d <| .rt Tryz.func11 Tryz.results11 (.bool false) ⟨(congrArg Value.bool (by have q1 : SD C ∧ (_ ∧ _) := (by assumption); exfalso; exact merge_hi q1.1 (by assumption) (by assumption) (by assumption) (by assumption) (by assumption))), J⟩
      exact .r 3 <| .d <| .cf <| .sk <| .ib 1 <| .g <| .r 1 <| RG.int ((k : Int) + 1) (by kernel_rfl) (by omega) <| .r 1 <| .d <| aV (k + 1) _ _ ⟨by kernel_rfl, by kernel_rfl, by kernel_rfl, by kernel_rfl, by kernel_rfl, by kernel_rfl, trivial⟩ ⟨aC, (by omega)⟩ (by omega)
     refine .r [21, 22, 23, 24, 25, 26, 27, 28, 29, 30, 31, 32] <| .d fun o8 cS => ?_
     replace ⟨ah, ai, af, aj, V, ac, W, Z, O, aa, E, am⟩ := (se [aI, ag, al, ak] cS).g12 ah ai af aj V ac W Z O aa E am
     replace ⟨ao, aq, ar, av, aw, J, aC⟩ := (se [aI, ag, al, ak] cS).g7 ao aq ar av aw J aC
     clear cS
     exact .r 4 <| .d <| .cf <| .sk <| .ib 1 <| .g <| .r 1 <| RG.int ((k : Int) + 1) (by kernel_rfl) (by omega) <| .r 1 <| .d <| aV (k + 1) _ _ ⟨by kernel_rfl, by kernel_rfl, by kernel_rfl, by kernel_rfl, by kernel_rfl, by kernel_rfl, trivial⟩ ⟨aC, (by omega)⟩ (by omega)
    refine .r [3, 4, 5, 6, 7, 8, 9, 10, 11, 12, 13, 14, 15, 16, 17, 18, 19] <| GA.boolP (i := 20) ((k : Int) > ae) (by kernel_rfl) (fun hO => ?_) (fun hO => ?_)
    ·refine .r [21, 22] <| .lb 23 E id <| .r [24] ?_
     have eY : k < (((mergeT C ae).1).parts).length := (by omega)
     refine GA.idx (i := 25) k (len := (((mergeT C ae).1).parts).length) (z := (k : Int)) (sz := 2) (by kernel_rfl) (by omega) eY (O.addr (Nat.zero_lt_of_lt eY)) ?_
     obtain ⟨eZ, cT⟩ : ∃ y, (((mergeT C ae).1).parts)[k]? = some y := ⟨_, List.getElem?_eq_getElem (by omega)⟩
     have lI := drop_at cT; have j1 := List.mem_of_getElem? cT
     obtain ⟨_, ⟨o9, pa, pb, pc, pd, pe, rfl, bP, bQ⟩, hQ⟩ := O.elem k eZ cT
     have hV := bP.len
     subst hV
     have lJ := bP.max
     have hW := bQ.len
     subst hW
     have lK := bQ.max
     refine .lg 26 0 hQ id <| .r [27] <| .lb 28 V id <| .r [29] <| GA.int (i := 30) ((k : Int) + 1) (by kernel_rfl) (by omega) ?_
     have e0 : k + 1 < C.parts.length := (by (have q1 : SD C ∧ (_ ∧ _) := (by assumption); have q2 := merge_len q1.1 (by assumption); omega))
     refine GA.idx (i := 31) (k + 1) (len := C.parts.length) (z := (k : Int) + 1) (sz := 2) (by kernel_rfl) (by omega) e0 (af.addr (Nat.zero_lt_of_lt e0)) ?_
     obtain ⟨e7, cU⟩ : ∃ y, C.parts[k + 1]? = some y := ⟨_, List.getElem?_eq_getElem (by omega)⟩
     have lL := drop_at cU; have j2 := List.mem_of_getElem? cU
     obtain ⟨_, ⟨pf, pg, ph, pi, pj, pk, rfl, bR, bS⟩, hX⟩ := af.elem (k + 1) e7 cU
     have hY := bR.len
     subst hY
     have lM := bR.max
     have hZ := bS.len
     subst hZ
     have lN := bS.max
     refine .lg 32 0 hX id <| .d fun j3 cV => ?_
     replace ⟨ah, ai, af, aj, V, ac, W, Z, O, aa, E, am⟩ := (se [aI, ag, al, ak] cV).g12 ah ai af aj V ac W Z O aa E am
     replace ⟨ao, aq, ar, av, aw, bP, bQ, bR, bS, J, aC⟩ := (se [aI, ag, al, ak] cV).g11 ao aq ar av aw bP bQ bR bS J aC
     clear cV
     refine .cl (c_laws_lyPart eZ e7 bP.ta bQ.ta bR.ta bS.ta (w := j3) (F := all)) ?_
     rintro pl pm ⟨rfl, cW⟩
     replace ⟨ah, ai, af, aj, V, ac, W, Z, O, aa, E, am⟩ := (se [aI, ag, al, ak] cW).g12 ah ai af aj V ac W Z O aa E am
     replace ⟨ao, aq, ar, av, aw, J, aC⟩ := (se [aI, ag, al, ak] cW).g7 ao aq ar av aw J aC
     clear cW
     cases lO : (eZ == e7)
     ·exact .r 3 <| .d <| .ct <| .s <| .g <| .r 1 <| .d <| .rt Tryz.func11 Tryz.results11 (.bool false) ⟨(congrArg Value.bool (by have q1 : SD C ∧ (_ ∧ _) := (by assumption); exfalso; exact merge_hi q1.1 (by assumption) (by assumption) (by assumption) (by assumption) (by assumption))), J⟩
     exact .r 3 <| .d <| .cf <| .sk <| .ib 1 <| .g <| .r 1 <| RG.int ((k : Int) + 1) (by kernel_rfl) (by omega) <| .r 1 <| .d <| aV (k + 1) _ _ ⟨by kernel_rfl, by kernel_rfl, by kernel_rfl, by kernel_rfl, by kernel_rfl, by kernel_rfl, trivial⟩ ⟨aC, (by omega)⟩ (by omega)
    refine .r [21, 22, 23, 24, 25, 26, 27, 28, 29, 30, 31, 32] <| .d fun pn cX => ?_
    replace ⟨ah, ai, af, aj, V, ac, W, Z, O, aa, E, am⟩ := (se [aI, ag, al, ak] cX).g12 ah ai af aj V ac W Z O aa E am
    replace ⟨ao, aq, ar, av, aw, J, aC⟩ := (se [aI, ag, al, ak] cX).g7 ao aq ar av aw J aC
    clear cX
    exact .r 4 <| .d <| .cf <| .sk <| .ib 1 <| .g <| .r 1 <| RG.int ((k : Int) + 1) (by kernel_rfl) (by omega) <| .r 1 <| .d <| aV (k + 1) _ _ ⟨by kernel_rfl, by kernel_rfl, by kernel_rfl, by kernel_rfl, by kernel_rfl, by kernel_rfl, trivial⟩ ⟨aC, (by omega)⟩ (by omega)
   refine .d <| .cf <| .x 0 rfl <| .s <| .gd nil 23 fun po cY => ?_
   replace ⟨ah, ai, af, aj, V, ac, W, Z, O, aa, E, am⟩ := (se [aI, ag, al, ak] cY).g12 ah ai af aj V ac W Z O aa E am
   replace ⟨ao, aq, ar, av, aw, J⟩ := (se [aI, ag, al, ak] cY).g6 ao aq ar av aw J
   clear cY
   refine .r [0, 1, 2, 3, 4, 5, 6, 7, 8, 9, 10, 11, 12, 13, 14, 15, 16, 17, 18, 19, 20, 21, 22] <| .d fun pp cZ => ?_
   replace ⟨ah, ai, af, aj, V, ac, W, Z, O, aa, E, am⟩ := (se [aI, ag, al, ak] cZ).g12 ah ai af aj V ac W Z O aa E am
   replace ⟨ao, aq, ar, av, aw, J⟩ := (se [aI, ag, al, ak] cZ).g6 ao aq ar av aw J
   clear cZ
   exact .r 7 <| .d <| .rt Tryz.func11 Tryz.results11 (.bool false) ⟨(congrArg Value.bool (by have q1 : SD C ∧ (_ ∧ _) := (by assumption); exfalso; exact merge_nf q1.1 (by assumption) (by assumption) (by assumption) (by assumption))), J⟩
  refine .r [14] <| .go 15 <| .nw (fun b => .pointer (some ⟨b, 0, none⟩)) 75 [.slice none 0 0, .slice none 0 0] fun pq c7 => ?_
  replace ⟨ah, ai, af, aj, V, ac, W, Z, O, aa, E, am⟩ := (se [ag, al, ak] c7).g12 ah ai af aj V ac W Z O aa E am
  replace ⟨ao, aq, ar, av, aw, J, aA⟩ := (se [ag, al, ak] c7).g7 ao aq ar av aw J aA
  clear c7
  intro aB pr aU c8 ia ic
  have lP := nb_new aU V.lt
  have lQ := nb_new aU ac.lt
  have lR := nb_new aU E.lt
  have lS := J.cn aU
  have ie := aA.cn aU
  replace ⟨ah, ai, af, aj, V, ac, W, Z, O, aa, E, am⟩ := (sn [ag, al, ak] c8 aU).g12 ah ai af aj V ac W Z O aa E am
  replace ⟨ao, aq, ar, av, aw, J, aA⟩ := (sn [ag, al, ak] c8 aU).g7 ao aq ar av aw J aA
  clear c8 ic aU
  refine .go 16 <| GE.storeB (t' := 75) (o := 0) (v := .agg #[.slice en ((((mergQ aN aO).1).ids).length) eo, .slice es ((((mergQ aN aO).1).blocks).length) et]) [.slice en ((((mergQ aN aO).1).ids).length) eo, .slice es ((((mergQ aN aO).1).blocks).length) et] ia (by kernel_rfl) (by kernel_rfl) (by kernel_rfl) fun pu c9 => ?_
  replace ⟨ah, ai, af, aj, V, ac, W, Z, O, aa, E, am⟩ := (se [aB, ag, al, ak] c9).g12 ah ai af aj V ac W Z O aa E am
  replace ⟨ao, aq, ar, av, aw, J, aA⟩ := (se [aB, ag, al, ak] c9).g7 ao aq ar av aw J aA
  clear c9
  intro pv bD aD ig
  have hkeep_ := Chg.toS bD (Cov.toS ie)
  clear ig
  replace ⟨ah, ai, af, aj, V, ac, W, Z, O, aa, E, am⟩ := (so [aB, ag, al, ak] bD).g12 ah ai af aj V ac W Z O aa E am
  replace ⟨ao, aq, ar, av, aw, J, aA⟩ := (so [aB, ag, al, ak] bD).g7 ao aq ar av aw J aA
  clear bD
  refine ⟨hkeep_, ?_⟩
  refine .d fun gs da => ?_
  replace ⟨ah, ai, af, aj, V, ac, W, Z, O, aa, E, am⟩ := (se [aB, ag, al, ak] da).g12 ah ai af aj V ac W Z O aa E am
  replace ⟨ao, aq, ar, av, aw, aD, J, aA⟩ := (se [aB, ag, al, ak] da).g8 ao aq ar av aw aD J aA
  clear da
  replace ah := ah.outof
  replace ai := ai.outof
  replace af := af.outof
  replace aj := aj.outof
  replace W := W.outof
  replace Z := Z.outof
  replace O := O.outof
  replace aa := aa.outof
  replace am := am.outof
  replace ao := ao.outof
  replace aq := aq.outof
  replace ar := ar.outof
  refine .r 1 <| .d <| .s <| .s <| .g <| .r 1 <| .d <| .b 0 <| T.loop (X := Nat) 0 (fun k => [(3, .pointer (some ⟨ak, 0, none⟩)), (4, vI ae), (7, .pointer (some ⟨ag, 0, none⟩)), (9, .pointer (some ⟨aB, 0, none⟩)), (10, .bool true), (11, vI (k : Int))]) (fun k e8 => Chg (ins []) gs e8 ∧ (k ≤ (mergeT C ae).1.parts.length)) (fun k => (mergeT C ae).1.parts.length - k) (by kernel_rfl) ⟨by kernel_rfl, by kernel_rfl, by kernel_rfl, by kernel_rfl, by kernel_rfl, by kernel_rfl, trivial⟩ ⟨Chg.refl _ _, (by omega)⟩ ?_
  rintro k pw e8 ⟨aE, lT⟩ aW
  have db : Mv [aB, ag, al, ak] [aB, ag, al, ak] gs e8 := Mv.inl aE all_nil (all_cons (.inl (.head _)) (all_cons (.inl (.tail _ (.head _))) (all_cons (.inl (.tail _ (.tail _ (.head _)))) (all_cons (.inl (.tail _ (.tail _ (.tail _ (.head _))))) all_nil))))
  replace ⟨ah, ai, af, aj, V, ac, W, Z, O, aa, E, am⟩ := (sp db aE).g12 ah ai af aj V ac W Z O aa E am
  replace ⟨ao, aq, ar, av, aw, aD, J⟩ := (sp db aE).g7 ao aq ar av aw aD J
  clear db
  refine .s <| .s <| .g <| .r 2 <| .lb E <| .r 1 <| .bp ((k : Int) < (((((mergeT C ae).1).parts).length) : Int)) (fun ii => ?_) (fun ii => ?_)
  ·refine .d <| .ct <| .sk <| .s <| .b 1 <| .s <| .gd nil 33 fun pz dd => ?_
   replace ⟨ah, ai, af, aj, V, ac, W, Z, O, aa, E, am⟩ := (se [aB, ag, al, ak] dd).g12 ah ai af aj V ac W Z O aa E am
   replace ⟨ao, aq, ar, av, aw, aD, J, aE⟩ := (se [aB, ag, al, ak] dd).g8 ao aq ar av aw aD J aE
   clear dd
   refine .r [0, 1] <| GA.boolP (i := 2) ((k : Int) < ae) (by kernel_rfl) (fun ij => ?_) (fun ij => ?_)
   ·refine .r [3, 4] <| .lb 5 E id <| .r [6] ?_
    have e9 : k < (((mergeT C ae).1).parts).length := (by omega)
    refine GA.idx (i := 7) k (len := (((mergeT C ae).1).parts).length) (z := (k : Int)) (sz := 2) (by kernel_rfl) (by omega) e9 (O.addr (Nat.zero_lt_of_lt e9)) ?_
    obtain ⟨bT, de⟩ : ∃ y, (((mergeT C ae).1).parts)[k]? = some y := ⟨_, List.getElem?_eq_getElem (by omega)⟩
    have lU := drop_at de; have j4 := List.mem_of_getElem? de
    obtain ⟨_, ⟨pA, pB, pC, pD, pE, pF, rfl, bj, bk⟩, fa⟩ := O.elem k bT de
    have ik := bj.len
    subst ik
    have lV := bj.max
    have il := bk.len
    subst il
    have lW := bk.max
    refine .lg 8 0 fa id <| .r [9] <| .lb 10 V id <| .r [11] ?_
    have fb : k < C.parts.length := (by omega)
    refine GA.idx (i := 12) k (len := C.parts.length) (z := (k : Int)) (sz := 2) (by kernel_rfl) (by omega) fb (af.addr (Nat.zero_lt_of_lt fb)) ?_
    obtain ⟨fc, df⟩ : ∃ y, C.parts[k]? = some y := ⟨_, List.getElem?_eq_getElem (by omega)⟩
    have lX := drop_at df; have j5 := List.mem_of_getElem? df
    obtain ⟨_, ⟨pG, pH, pI, pJ, pK, pL, rfl, fd, fe⟩, im⟩ := af.elem k fc df
    have io := fd.len
    subst io
    have lY := fd.max
    have ip := fe.len
    subst ip
    have lZ := fe.max
    refine .lg 13 0 im id <| GA.call1 (i := 14) (by kernel_rfl) (fun j6 bE => c_laws_lyPart bT fc (bj.ta.ext bE) (bk.ta.ext bE) (fd.ta.ext bE) (fe.ta.ext bE) (w := j6) (F := all)) ?_
    cases l0 : (bT == fc)
    ·refine .r [15, 16, 17, 18, 19, 20, 21, 22, 23, 24, 25, 26, 27, 28, 29, 30, 31, 32] <| .d fun pM dg => ?_
     replace ⟨ah, ai, af, aj, V, ac, W, Z, O, aa, E, am⟩ := (se [aB, ag, al, ak] dg).g12 ah ai af aj V ac W Z O aa E am
     replace ⟨ao, aq, ar, av, aw, aD, bj, bk, J, aE⟩ := (se [aB, ag, al, ak] dg).g10 ao aq ar av aw aD bj bk J aE
     clear dg
     exact .r 4 <| .d <| .ct <| .s <| .g <| .r 1 <| .d <| .rt Tryz.func11 Tryz.results11 (.bool false) ⟨(congrArg Value.bool (by have q1 : SD C ∧ (_ ∧ _) := (by assumption); exfalso; exact merge_lo q1.1 (by assumption) (by assumption) (by assumption) (by assumption) (by assumption))), J⟩
    refine .r [15, 16, 17, 18, 19] <| GA.boolP (i := 20) ((k : Int) > ae) (by kernel_rfl) (fun iq => ?_) (fun iq => ?_)
    ·refine .r [21, 22] <| .lb 23 E id <| .r [24] ?_
     have ff : k < (((mergeT C ae).1).parts).length := (by omega)
     refine GA.idx (i := 25) k (len := (((mergeT C ae).1).parts).length) (z := (k : Int)) (sz := 2) (by kernel_rfl) (by omega) ff (O.addr (Nat.zero_lt_of_lt ff)) <| .lg 26 0 fa id <| .r [27] <| .lb 28 V id <| .r [29] <| GA.int (i := 30) ((k : Int) + 1) (by kernel_rfl) (by omega) ?_
     have fg : k + 1 < C.parts.length := (by omega)
     refine GA.idx (i := 31) (k + 1) (len := C.parts.length) (z := (k : Int) + 1) (sz := 2) (by kernel_rfl) (by omega) fg (af.addr (Nat.zero_lt_of_lt fg)) ?_
     obtain ⟨fh, dh⟩ : ∃ y, C.parts[k + 1]? = some y := ⟨_, List.getElem?_eq_getElem (by omega)⟩
     have l3 := drop_at dh; have j7 := List.mem_of_getElem? dh
     obtain ⟨_, ⟨pN, pO, pP, pQ, pR, pS, rfl, bU, bV⟩, ir⟩ := af.elem (k + 1) fh dh
     have iu := bU.len
     subst iu
     have l4 := bU.max
     have iw := bV.len
     subst iw
     have l5 := bV.max
     refine .lg 32 0 ir id <| .d fun j8 di => ?_
     replace ⟨ah, ai, af, aj, V, ac, W, Z, O, aa, E, am⟩ := (se [aB, ag, al, ak] di).g12 ah ai af aj V ac W Z O aa E am
     replace ⟨ao, aq, ar, av, aw, aD, bj, bk, bU, bV, J, aE⟩ := (se [aB, ag, al, ak] di).g12 ao aq ar av aw aD bj bk bU bV J aE
     clear di
     refine .cl (c_laws_lyPart bT fh bj.ta bk.ta bU.ta bV.ta (w := j8) (F := all)) ?_
     rintro pT pU ⟨rfl, dj⟩
     replace ⟨ah, ai, af, aj, V, ac, W, Z, O, aa, E, am⟩ := (se [aB, ag, al, ak] dj).g12 ah ai af aj V ac W Z O aa E am
     replace ⟨ao, aq, ar, av, aw, aD, J, aE⟩ := (se [aB, ag, al, ak] dj).g8 ao aq ar av aw aD J aE
     clear dj
     cases l6 : (bT == fh)
     ·exact .r 3 <| .d <| .ct <| .s <| .g <| .r 1 <| .d <| .rt Tryz.func11 Tryz.results11 (.bool false) ⟨(congrArg Value.bool (by have q1 : SD C ∧ (_ ∧ _) := (by assumption); exfalso; exact merge_hi q1.1 (by assumption) (by assumption) (by assumption) (by assumption) (by assumption))), J⟩
     exact .r 3 <| .d <| .cf <| .sk <| .ib 1 <| .g <| .r 1 <| RG.int ((k : Int) + 1) (by kernel_rfl) (by omega) <| .r 1 <| .d <| aW (k + 1) _ _ ⟨by kernel_rfl, by kernel_rfl, by kernel_rfl, by kernel_rfl, by kernel_rfl, by kernel_rfl, trivial⟩ ⟨aE, (by omega)⟩ (by omega)
    refine .r [21, 22, 23, 24, 25, 26, 27, 28, 29, 30, 31, 32] <| .d fun pV dk => ?_
    replace ⟨ah, ai, af, aj, V, ac, W, Z, O, aa, E, am⟩ := (se [aB, ag, al, ak] dk).g12 ah ai af aj V ac W Z O aa E am
    replace ⟨ao, aq, ar, av, aw, aD, J, aE⟩ := (se [aB, ag, al, ak] dk).g8 ao aq ar av aw aD J aE
    clear dk
    exact .r 4 <| .d <| .cf <| .sk <| .ib 1 <| .g <| .r 1 <| RG.int ((k : Int) + 1) (by kernel_rfl) (by omega) <| .r 1 <| .d <| aW (k + 1) _ _ ⟨by kernel_rfl, by kernel_rfl, by kernel_rfl, by kernel_rfl, by kernel_rfl, by kernel_rfl, trivial⟩ ⟨aE, (by omega)⟩ (by omega)
   refine .r [3, 4, 5, 6, 7, 8, 9, 10, 11, 12, 13, 14, 15, 16, 17, 18, 19] <| GA.boolP (i := 20) ((k : Int) > ae) (by kernel_rfl) (fun iy => ?_) (fun iy => ?_)
   ·refine .r [21, 22] <| .lb 23 E id <| .r [24] ?_
    have fi : k < (((mergeT C ae).1).parts).length := (by omega)
    refine GA.idx (i := 25) k (len := (((mergeT C ae).1).parts).length) (z := (k : Int)) (sz := 2) (by kernel_rfl) (by omega) fi (O.addr (Nat.zero_lt_of_lt fi)) ?_
    obtain ⟨fj, dm⟩ : ∃ y, (((mergeT C ae).1).parts)[k]? = some y := ⟨_, List.getElem?_eq_getElem (by omega)⟩
    have l7 := drop_at dm; have j9 := List.mem_of_getElem? dm
    obtain ⟨_, ⟨pW, pX, pY, pZ, p0, p1, rfl, bW, bX⟩, iz⟩ := O.elem k fj dm
    have iA := bW.len
    subst iA
    have l8 := bW.max
    have iB := bX.len
    subst iB
    have l9 := bX.max
    refine .lg 26 0 iz id <| .r [27] <| .lb 28 V id <| .r [29] <| GA.int (i := 30) ((k : Int) + 1) (by kernel_rfl) (by omega) ?_
    have fk : k + 1 < C.parts.length := (by (have q1 : SD C ∧ (_ ∧ _) := (by assumption); have q2 := merge_len q1.1 (by assumption); omega))
    refine GA.idx (i := 31) (k + 1) (len := C.parts.length) (z := (k : Int) + 1) (sz := 2) (by kernel_rfl) (by omega) fk (af.addr (Nat.zero_lt_of_lt fk)) ?_
    obtain ⟨fl, dp⟩ : ∃ y, C.parts[k + 1]? = some y := ⟨_, List.getElem?_eq_getElem (by omega)⟩
    have ma := drop_at dp; have ka := List.mem_of_getElem? dp
    obtain ⟨_, ⟨p2, p3, p4, p5, p6, p7, rfl, bY, bZ⟩, iC⟩ := af.elem (k + 1) fl dp
    have iD := bY.len
    subst iD
    have mb := bY.max
    have iE := bZ.len
    subst iE
    have mc := bZ.max
    refine .lg 32 0 iC id <| .d fun kb dq => ?_
    replace ⟨ah, ai, af, aj, V, ac, W, Z, O, aa, E, am⟩ := (se [aB, ag, al, ak] dq).g12 ah ai af aj V ac W Z O aa E am
    replace ⟨ao, aq, ar, av, aw, aD, bW, bX, bY, bZ, J, aE⟩ := (se [aB, ag, al, ak] dq).g12 ao aq ar av aw aD bW bX bY bZ J aE
    clear dq
    refine .cl (c_laws_lyPart fj fl bW.ta bX.ta bY.ta bZ.ta (w := kb) (F := all)) ?_
    rintro p8 p9 ⟨rfl, dr⟩
    replace ⟨ah, ai, af, aj, V, ac, W, Z, O, aa, E, am⟩ := (se [aB, ag, al, ak] dr).g12 ah ai af aj V ac W Z O aa E am
    replace ⟨ao, aq, ar, av, aw, aD, J, aE⟩ := (se [aB, ag, al, ak] dr).g8 ao aq ar av aw aD J aE
    clear dr
    cases me : (fj == fl)
    ·exact .r 3 <| .d <| .ct <| .s <| .g <| .r 1 <| .d <| .rt Tryz.func11 Tryz.results11 (.bool false) ⟨(congrArg Value.bool (by have q1 : SD C ∧ (_ ∧ _) := (by assumption); exfalso; exact merge_hi q1.1 (by assumption) (by assumption) (by assumption) (by assumption) (by assumption))), J⟩
    exact .r 3 <| .d <| .cf <| .sk <| .ib 1 <| .g <| .r 1 <| RG.int ((k : Int) + 1) (by kernel_rfl) (by omega) <| .r 1 <| .d <| aW (k + 1) _ _ ⟨by kernel_rfl, by kernel_rfl, by kernel_rfl, by kernel_rfl, by kernel_rfl, by kernel_rfl, trivial⟩ ⟨aE, (by omega)⟩ (by omega)
   refine .r [21, 22, 23, 24, 25, 26, 27, 28, 29, 30, 31, 32] <| .d fun qa dt => ?_
   replace ⟨ah, ai, af, aj, V, ac, W, Z, O, aa, E, am⟩ := (se [aB, ag, al, ak] dt).g12 ah ai af aj V ac W Z O aa E am
   replace ⟨ao, aq, ar, av, aw, aD, J, aE⟩ := (se [aB, ag, al, ak] dt).g8 ao aq ar av aw aD J aE
   clear dt
   exact .r 4 <| .d <| .cf <| .sk <| .ib 1 <| .g <| .r 1 <| RG.int ((k : Int) + 1) (by kernel_rfl) (by omega) <| .r 1 <| .d <| aW (k + 1) _ _ ⟨by kernel_rfl, by kernel_rfl, by kernel_rfl, by kernel_rfl, by kernel_rfl, by kernel_rfl, trivial⟩ ⟨aE, (by omega)⟩ (by omega)
  refine .d <| .cf <| .x 0 rfl <| .s <| .gd nil 23 fun qb du => ?_
  replace ⟨ah, ai, af, aj, V, ac, W, Z, O, aa, E, am⟩ := (se [aB, ag, al, ak] du).g12 ah ai af aj V ac W Z O aa E am
  replace ⟨ao, aq, ar, av, aw, aD, J⟩ := (se [aB, ag, al, ak] du).g7 ao aq ar av aw aD J
  clear du
  refine .r [0, 1, 2] <| .lb 3 E id <| .r [4] ?_
  have fm : (ae).toNat < (((mergeT C ae).1).parts).length := (by (have q1 : SD C ∧ (_ ∧ _) := (by assumption); have q2 := merge_len q1.1 (by assumption); omega))
  refine GA.idx (i := 5) ((ae).toNat) (len := (((mergeT C ae).1).parts).length) (z := ae) (sz := 2) (by kernel_rfl) (by (have q1 : SD C ∧ (_ ∧ _) := (by assumption); have q2 := merge_len q1.1 (by assumption); omega)) fm (O.addr (Nat.zero_lt_of_lt fm)) ?_
  obtain ⟨fp, dv⟩ : ∃ y, (((mergeT C ae).1).parts)[(ae).toNat]? = some y := ⟨_, List.getElem?_eq_getElem (by omega)⟩
  have mf := drop_at dv; have kc := List.mem_of_getElem? dv
  obtain ⟨_, ⟨qc, qd, qe, qf, qg, qh, rfl, fq, ft⟩, iF⟩ := O.elem ((ae).toNat) fp dv
  have iG := fq.len
  subst iG
  have mg := fq.max
  have iH := ft.len
  subst iH
  have mh := ft.max
  refine .lg 6 0 iF id <| .ln 7 aD id <| GA.call1 (i := 8) (by kernel_rfl) (fun kd bF => c_laws_lyPart fp ((mergQ aN aO).1) (fq.ta.ext bF) (ft.ta.ext bF) (av.ta.ext bF) (aw.ta.ext bF) (w := kd) (F := all)) ?_
  cases mj : (fp == ((mergQ aN aO).1))
  ·refine .r [9, 10, 11, 12, 13, 14, 15, 16, 17, 18, 19, 20, 21, 22] <| .d fun qi dw => ?_
   replace ⟨ah, ai, af, aj, V, ac, W, Z, O, aa, E, am⟩ := (se [aB, ag, al, ak] dw).g12 ah ai af aj V ac W Z O aa E am
   replace ⟨ao, aq, ar, J⟩ := (se [aB, ag, al, ak] dw).g4 ao aq ar J
   clear dw
   exact .r 7 <| .d <| .rt Tryz.func11 Tryz.results11 (.bool false) ⟨(congrArg Value.bool (by have q1 : SD C ∧ (_ ∧ _) := (by assumption); exfalso; exact merge_md q1.1 (by assumption) (by assumption) (by assumption) (by assumption) (by assumption))), J⟩
  refine .r [9, 10, 11] <| .lb 12 E id <| .r [13, 14] <| .lb 15 V id <| .r [16] <| GA.int (i := 17) ((C.parts.length : Int) - 1) (by kernel_rfl) (by omega) <| GA.eqI (i := 18) (a := (((((mergeT C ae).1).parts).length) : Int)) (b := (C.parts.length : Int) - 1) (by kernel_rfl) (fun iI => ?_) (fun iI => ?_)
  ·refine .r [19, 20] <| .ln 21 E id <| .ln 22 V id <| .d fun ke dx => ?_
   replace ⟨ah, ai, af, aj, V, ac, W, Z, O, aa, E, am⟩ := (se [aB, ag, al, ak] dx).g12 ah ai af aj V ac W Z O aa E am
   replace ⟨ao, aq, ar, J⟩ := (se [aB, ag, al, ak] dx).g4 ao aq ar J
   clear dx
   refine .cl (c_laws_lySays (⟨(⟨(((mergeT C ae).1).idx).names, (((mergeT C ae).1).idx).posts⟩ : Idx), ((mergeT C ae).1).parts, ((mergeT C ae).1).mem⟩ : Sto) C W.ta Z.ta O.ta aa.ta ah.ta ai.ta af.ta aj.ta (by have q1 : SD C ∧ (_ ∧ _) := (by assumption); exact merge_sd q1.1 (by assumption)) (by have q1 : SD C ∧ (_ ∧ _) := (by assumption); exact q1.1) (w := ke) (F := all)) ?_
   rintro qj kf ⟨rfl, dy⟩
   replace ⟨ah, ai, af, aj, V, ac, W, Z, O, aa, E, am⟩ := (se [aB, ag, al, ak] dy).g12 ah ai af aj V ac W Z O aa E am
   replace ⟨ao, aq, ar, J⟩ := (se [aB, ag, al, ak] dy).g4 ao aq ar J
   clear dy
   cases ml : (askS (⟨(⟨(((mergeT C ae).1).idx).names, (((mergeT C ae).1).idx).posts⟩ : Idx), ((mergeT C ae).1).parts, ((mergeT C ae).1).mem⟩ : Sto) [] 0 99 == askS C [] 0 99)
   ·exact .r 6 <| .d <| .rt Tryz.func11 Tryz.results11 (.bool false) ⟨(congrArg Value.bool (by have q1 : SD C ∧ (_ ∧ _) := (by assumption); exfalso; exact merge_f q1.1 (by assumption) (by assumption))), J⟩
   refine .r 2 <| .ln E <| .cl (c_impl_StoreOk (⟨(⟨(((mergeT C ae).1).idx).names, (((mergeT C ae).1).idx).posts⟩ : Idx), ((mergeT C ae).1).parts, ((mergeT C ae).1).mem⟩ : Sto) W.ta Z.ta O.ta aa.ta (by have q1 : SD C ∧ (_ ∧ _) := (by assumption); exact merge_sd q1.1 (by assumption)) (w := kf) (F := all)) ?_
   rintro qk ql ⟨rfl, dz⟩
   replace ⟨ah, ai, af, aj, V, ac, W, Z, O, aa, E, am⟩ := (se [aB, ag, al, ak] dz).g12 ah ai af aj V ac W Z O aa E am
   replace ⟨ao, aq, ar, J⟩ := (se [aB, ag, al, ak] dz).g4 ao aq ar J
   clear dz
   exact .r 2 <| .d <| .rt Tryz.func11 Tryz.results11 (.bool (storeOk (⟨(⟨(((mergeT C ae).1).idx).names, (((mergeT C ae).1).idx).posts⟩ : Idx), ((mergeT C ae).1).parts, ((mergeT C ae).1).mem⟩ : Sto))) ⟨(congrArg Value.bool (by (have q1 : SD C ∧ (_ ∧ _) := (by assumption); exact (merge_says q1.1 (by assumption)).2))), J⟩
  refine .r [19, 20, 21, 22] <| .d fun qm dA => ?_
  replace ⟨ah, ai, af, aj, V, ac, W, Z, O, aa, E, am⟩ := (se [aB, ag, al, ak] dA).g12 ah ai af aj V ac W Z O aa E am
  replace ⟨ao, aq, ar, J⟩ := (se [aB, ag, al, ak] dA).g4 ao aq ar J
  clear dA
  exact .r 7 <| .d <| .rt Tryz.func11 Tryz.results11 (.bool false) ⟨(congrArg Value.bool (by have q1 : SD C ∧ (_ ∧ _) := (by assumption); exfalso; (have q2 := merge_len q1.1 (by assumption); omega))), J⟩
 refine .nw (fun b => .pointer (some ⟨b, 0, none⟩)) 75 [.slice none 0 0, .slice none 0 0] fun qn dB => ?_
 replace ⟨ah, ai, af, aj, V, ac, W, Z, O, aa, E, am⟩ := (se [ag, al, ak] dB).g12 ah ai af aj V ac W Z O aa E am
 replace ⟨ao, aq, ar, J, aA⟩ := (se [ag, al, ak] dB).g5 ao aq ar J aA
 clear dB
 intro ax qo ba dC aR iJ
 have mm := nb_new ba V.lt
 have mn := nb_new ba E.lt
 have mo := J.cn ba
 have fu := aA.cn ba
 replace ⟨ah, ai, af, aj, V, ac, W, Z, O, aa, E, am⟩ := (sn [ag, al, ak] dC ba).g12 ah ai af aj V ac W Z O aa E am
 replace ⟨ao, aq, ar, J⟩ := (sn [ag, al, ak] dC ba).g4 ao aq ar J
 clear dC iJ ba
 refine .go 11 <| .cl (fun fv bc => c_impl_PartMerge aN aO (am.ta.ext bc) (ao.ta.ext bc) (aq.ta.ext bc) (ar.ta.ext bc) (by have q1 : SD C ∧ (_ ∧ _) := (by assumption); exact (q1.1.part _ (by assumption)).sz) (by have q1 : SD C ∧ (_ ∧ _) := (by assumption); exact (q1.1.part _ (by assumption)).sz) (w := fv) (F := all)) ?_
 intro fv bc
 replace ⟨ah, ai, af, aj, V, ac, W, Z, O, aa, E, aR⟩ := (se [ax, ag, al, ak] bc).g12 ah ai af aj V ac W Z O aa E aR
 replace J := (se [ax, ag, al, ak] bc).g1 J
 rintro qp qq ⟨⟨qr, rfl, ⟨_, rfl, ⟨ew, qs, ex, ey, qt, ez, rfl, ay, az⟩⟩⟩, dD⟩
 have dE := al4 aR.lt E.lt ac.lt V.lt
 have fw : Gb w.heap.size fv.heap.size := J.size
 have hkeep_ := dD
 replace ⟨ah, ai, af, aj, V, W, Z, O, aa, E, aR, J⟩ := (se [ax, ag, al, ak] dD).g12 ah ai af aj V W Z O aa E aR J
 clear dD
 refine ⟨Ext.chg hkeep_, ?_⟩
 have ay := ay.fr dE fw
 replace ay := ay.base (G' := fo F w.heap.size) (fun _ _ h => .inr h)
 have mp := ay.max
 have az := az.fr dE fw
 replace az := az.base (G' := fo F w.heap.size) (fun _ _ h => .inr h)
 have mq := az.max
 clear dE
 have iK := ay.len
 subst iK
 have iL := az.len
 subst iL
 refine .r [12, 13] ?_
 cases mr : (mergQ aN aO).2
 ·refine .r [14] <| .go 16 <| GE.storeB (t' := 75) (o := 0) (v := .agg #[.slice ew ((((mergQ aN aO).1).ids).length) ex, .slice ey ((((mergQ aN aO).1).blocks).length) ez]) [.slice ew ((((mergQ aN aO).1).ids).length) ex, .slice ey ((((mergQ aN aO).1).blocks).length) ez] aR (by kernel_rfl) (by kernel_rfl) (by kernel_rfl) fun qu dF => ?_
  replace ⟨ah, ai, af, aj, V, W, Z, O, aa, E, aR, ay⟩ := (se [ax, ag, al, ak] dF).g12 ah ai af aj V W Z O aa E aR ay
  replace ⟨az, J⟩ := (se [ax, ag, al, ak] dF).g2 az J
  clear dF
  intro qv bG mt iM
  have hkeep_ := Chg.toS bG (Cov.toS fu)
  clear iM
  replace ⟨ah, ai, af, aj, V, W, Z, O, aa, E, ay, az⟩ := (so [ax, ag, al, ak] bG).g12 ah ai af aj V W Z O aa E ay az
  replace J := (so [ax, ag, al, ak] bG).g1 J
  clear bG
  refine ⟨hkeep_, ?_⟩
  refine .d fun gt dG => ?_
  replace ⟨ah, ai, af, aj, V, W, Z, O, aa, E, ay, az⟩ := (se [ax, ag, al, ak] dG).g12 ah ai af aj V W Z O aa E ay az
  replace J := (se [ax, ag, al, ak] dG).g1 J
  clear dG
  replace ah := ah.outof
  replace ai := ai.outof
  replace af := af.outof
  replace aj := aj.outof
  replace W := W.outof
  replace Z := Z.outof
  replace O := O.outof
  replace aa := aa.outof
  refine .r 1 <| .d <| .s <| .s <| .g <| .r 1 <| .d <| .b 0 <| T.loop (X := Nat) 0 (fun k => [(3, .pointer (some ⟨ak, 0, none⟩)), (4, vI ae), (7, .pointer (some ⟨ag, 0, none⟩)), (9, .pointer (some ⟨ax, 0, none⟩)), (10, .bool false), (11, vI (k : Int))]) (fun k fx => Chg (ins []) gt fx ∧ (k ≤ (mergeT C ae).1.parts.length)) (fun k => (mergeT C ae).1.parts.length - k) (by kernel_rfl) ⟨by kernel_rfl, by kernel_rfl, by kernel_rfl, by kernel_rfl, by kernel_rfl, by kernel_rfl, trivial⟩ ⟨Chg.refl _ _, (by omega)⟩ ?_
  rintro k qw fx ⟨aF, mu⟩ aX
  have dH : Mv [ax, ag, al, ak] [ax, ag, al, ak] gt fx := Mv.inl aF all_nil (all_cons (.inl (.head _)) (all_cons (.inl (.tail _ (.head _))) (all_cons (.inl (.tail _ (.tail _ (.head _)))) (all_cons (.inl (.tail _ (.tail _ (.tail _ (.head _))))) all_nil))))
  replace ⟨ah, ai, af, aj, V, W, Z, O, aa, E, ay, az⟩ := (sp dH aF).g12 ah ai af aj V W Z O aa E ay az
  replace J := (sp dH aF).g1 J
  clear dH
  refine .s <| .s <| .g <| .r 2 <| .lb E <| .r 1 <| .bp ((k : Int) < (((((mergeT C ae).1).parts).length) : Int)) (fun iN => ?_) (fun iN => ?_)
  ·refine .d <| .ct <| .sk <| .s <| .b 1 <| .s <| .gd nil 33 fun qx dI => ?_
   replace ⟨ah, ai, af, aj, V, W, Z, O, aa, E, ay, az⟩ := (se [ax, ag, al, ak] dI).g12 ah ai af aj V W Z O aa E ay az
   replace ⟨J, aF⟩ := (se [ax, ag, al, ak] dI).g2 J aF
   clear dI
   refine .r [0, 1] <| GA.boolP (i := 2) ((k : Int) < ae) (by kernel_rfl) (fun iO => ?_) (fun iO => ?_)
   ·refine .r [3, 4] <| .lb 5 E id <| .r [6] ?_
    have fy : k < (((mergeT C ae).1).parts).length := (by omega)
    refine GA.idx (i := 7) k (len := (((mergeT C ae).1).parts).length) (z := (k : Int)) (sz := 2) (by kernel_rfl) (by omega) fy (O.addr (Nat.zero_lt_of_lt fy)) ?_
    obtain ⟨b0, dJ⟩ : ∃ y, (((mergeT C ae).1).parts)[k]? = some y := ⟨_, List.getElem?_eq_getElem (by omega)⟩
    have mw := drop_at dJ; have kg := List.mem_of_getElem? dJ
    obtain ⟨_, ⟨qy, qz, qA, qB, qC, qD, rfl, bm, bn⟩, fz⟩ := O.elem k b0 dJ
    have iP := bm.len
    subst iP
    have mz := bm.max
    have iQ := bn.len
    subst iQ
    have mA := bn.max
    refine .lg 8 0 fz id <| .r [9] <| .lb 10 V id <| .r [11] ?_
    have fA : k < C.parts.length := (by omega)
    refine GA.idx (i := 12) k (len := C.parts.length) (z := (k : Int)) (sz := 2) (by kernel_rfl) (by omega) fA (af.addr (Nat.zero_lt_of_lt fA)) ?_
    obtain ⟨fB, dK⟩ : ∃ y, C.parts[k]? = some y := ⟨_, List.getElem?_eq_getElem (by omega)⟩
    have mB := drop_at dK; have kh := List.mem_of_getElem? dK
    obtain ⟨_, ⟨qE, qF, qG, qH, qI, qJ, rfl, fC, fD⟩, iR⟩ := af.elem k fB dK
    have iS := fC.len
    subst iS
    have mC := fC.max
    have iT := fD.len
    subst iT
    have mD := fD.max
    refine .lg 13 0 iR id <| GA.call1 (i := 14) (by kernel_rfl) (fun ki bH => c_laws_lyPart b0 fB (bm.ta.ext bH) (bn.ta.ext bH) (fC.ta.ext bH) (fD.ta.ext bH) (w := ki) (F := all)) ?_
    cases mE : (b0 == fB)
    ·refine .r [15, 16, 17, 18, 19, 20, 21, 22, 23, 24, 25, 26, 27, 28, 29, 30, 31, 32] <| .d fun qK dL => ?_
     replace ⟨ah, ai, af, aj, V, W, Z, O, aa, E, ay, az⟩ := (se [ax, ag, al, ak] dL).g12 ah ai af aj V W Z O aa E ay az
     replace ⟨bm, bn, J, aF⟩ := (se [ax, ag, al, ak] dL).g4 bm bn J aF
     clear dL
     exact .r 4 <| .d <| .ct <| .s <| .g <| .r 1 <| .d <| .rt Tryz.func11 Tryz.results11 (.bool false) ⟨(congrArg Value.bool (by have q1 : SD C ∧ (_ ∧ _) := (by assumption); exfalso; exact merge_lo q1.1 (by assumption) (by assumption) (by assumption) (by assumption) (by assumption))), J⟩
    refine .r [15, 16, 17, 18, 19] <| GA.boolP (i := 20) ((k : Int) > ae) (by kernel_rfl) (fun iU => ?_) (fun iU => ?_)
    ·refine .r [21, 22] <| .lb 23 E id <| .r [24] ?_
     have fE : k < (((mergeT C ae).1).parts).length := (by omega)
     refine GA.idx (i := 25) k (len := (((mergeT C ae).1).parts).length) (z := (k : Int)) (sz := 2) (by kernel_rfl) (by omega) fE (O.addr (Nat.zero_lt_of_lt fE)) <| .lg 26 0 fz id <| .r [27] <| .lb 28 V id <| .r [29] <| GA.int (i := 30) ((k : Int) + 1) (by kernel_rfl) (by omega) ?_
     have fF : k + 1 < C.parts.length := (by omega)
     refine GA.idx (i := 31) (k + 1) (len := C.parts.length) (z := (k : Int) + 1) (sz := 2) (by kernel_rfl) (by omega) fF (af.addr (Nat.zero_lt_of_lt fF)) ?_
     obtain ⟨fG, dM⟩ : ∃ y, C.parts[k + 1]? = some y := ⟨_, List.getElem?_eq_getElem (by omega)⟩
     have mF := drop_at dM; have kj := List.mem_of_getElem? dM
     obtain ⟨_, ⟨qL, qM, qN, qO, qP, qQ, rfl, b6, b7⟩, iV⟩ := af.elem (k + 1) fG dM
     have iW := b6.len
     subst iW
     have mG := b6.max
     have iX := b7.len
     subst iX
     have mH := b7.max
     refine .lg 32 0 iV id <| .d fun kk dN => ?_
     replace ⟨ah, ai, af, aj, V, W, Z, O, aa, E, ay, az⟩ := (se [ax, ag, al, ak] dN).g12 ah ai af aj V W Z O aa E ay az
     replace ⟨bm, bn, b6, b7, J, aF⟩ := (se [ax, ag, al, ak] dN).g6 bm bn b6 b7 J aF
     clear dN
     refine .cl (c_laws_lyPart b0 fG bm.ta bn.ta b6.ta b7.ta (w := kk) (F := all)) ?_
     rintro qR qS ⟨rfl, dO⟩
     replace ⟨ah, ai, af, aj, V, W, Z, O, aa, E, ay, az⟩ := (se [ax, ag, al, ak] dO).g12 ah ai af aj V W Z O aa E ay az
     replace ⟨J, aF⟩ := (se [ax, ag, al, ak] dO).g2 J aF
     clear dO
     cases mI : (b0 == fG)
     ·exact .r 3 <| .d <| .ct <| .s <| .g <| .r 1 <| .d <| .rt Tryz.func11 Tryz.results11 (.bool false) ⟨(congrArg Value.bool (by have q1 : SD C ∧ (_ ∧ _) := (by assumption); exfalso; exact merge_hi q1.1 (by assumption) (by assumption) (by assumption) (by assumption) (by assumption))), J⟩
     exact .r 3 <| .d <| .cf <| .sk <| .ib 1 <| .g <| .r 1 <| RG.int ((k : Int) + 1) (by kernel_rfl) (by omega) <| .r 1 <| .d <| aX (k + 1) _ _ ⟨by kernel_rfl, by kernel_rfl, by kernel_rfl, by kernel_rfl, by kernel_rfl, by kernel_rfl, trivial⟩ ⟨aF, (by omega)⟩ (by omega)
    refine .r [21, 22, 23, 24, 25, 26, 27, 28, 29, 30, 31, 32] <| .d fun qT dP => ?_
    replace ⟨ah, ai, af, aj, V, W, Z, O, aa, E, ay, az⟩ := (se [ax, ag, al, ak] dP).g12 ah ai af aj V W Z O aa E ay az
    replace ⟨J, aF⟩ := (se [ax, ag, al, ak] dP).g2 J aF
    clear dP
    exact .r 4 <| .d <| .cf <| .sk <| .ib 1 <| .g <| .r 1 <| RG.int ((k : Int) + 1) (by kernel_rfl) (by omega) <| .r 1 <| .d <| aX (k + 1) _ _ ⟨by kernel_rfl, by kernel_rfl, by kernel_rfl, by kernel_rfl, by kernel_rfl, by kernel_rfl, trivial⟩ ⟨aF, (by omega)⟩ (by omega)
   refine .r [3, 4, 5, 6, 7, 8, 9, 10, 11, 12, 13, 14, 15, 16, 17, 18, 19] <| GA.boolP (i := 20) ((k : Int) > ae) (by kernel_rfl) (fun iY => ?_) (fun iY => ?_)
   ·refine .r [21, 22] <| .lb 23 E id <| .r [24] ?_
    have fH : k < (((mergeT C ae).1).parts).length := (by omega)
    refine GA.idx (i := 25) k (len := (((mergeT C ae).1).parts).length) (z := (k : Int)) (sz := 2) (by kernel_rfl) (by omega) fH (O.addr (Nat.zero_lt_of_lt fH)) ?_
    obtain ⟨fI, dQ⟩ : ∃ y, (((mergeT C ae).1).parts)[k]? = some y := ⟨_, List.getElem?_eq_getElem (by omega)⟩
    have mJ := drop_at dQ; have kl := List.mem_of_getElem? dQ
    obtain ⟨_, ⟨qU, qV, qW, qX, qY, qZ, rfl, b8, b9⟩, iZ⟩ := O.elem k fI dQ
    have ja := b8.len
    subst ja
    have mK := b8.max
    have jb := b9.len
    subst jb
    have mL := b9.max
    refine .lg 26 0 iZ id <| .r [27] <| .lb 28 V id <| .r [29] <| GA.int (i := 30) ((k : Int) + 1) (by kernel_rfl) (by omega) ?_
    have fJ : k + 1 < C.parts.length := (by (have q1 : SD C ∧ (_ ∧ _) := (by assumption); have q2 := merge_len q1.1 (by assumption); omega))
    refine GA.idx (i := 31) (k + 1) (len := C.parts.length) (z := (k : Int) + 1) (sz := 2) (by kernel_rfl) (by omega) fJ (af.addr (Nat.zero_lt_of_lt fJ)) ?_
    obtain ⟨fK, dR⟩ : ∃ y, C.parts[k + 1]? = some y := ⟨_, List.getElem?_eq_getElem (by omega)⟩
    have mM := drop_at dR; have km := List.mem_of_getElem? dR
    obtain ⟨_, ⟨q0, q4, q5, q6, q7, q8, rfl, cd, ce⟩, jc⟩ := af.elem (k + 1) fK dR
    have jd := cd.len
    subst jd
    have mN := cd.max
    have je := ce.len
    subst je
    have mO := ce.max
    refine .lg 32 0 jc id <| .d fun ko dS => ?_
    replace ⟨ah, ai, af, aj, V, W, Z, O, aa, E, ay, az⟩ := (se [ax, ag, al, ak] dS).g12 ah ai af aj V W Z O aa E ay az
    replace ⟨b8, b9, cd, ce, J, aF⟩ := (se [ax, ag, al, ak] dS).g6 b8 b9 cd ce J aF
    clear dS
    refine .cl (c_laws_lyPart fI fK b8.ta b9.ta cd.ta ce.ta (w := ko) (F := all)) ?_
    rintro q9 ra ⟨rfl, dT⟩
    replace ⟨ah, ai, af, aj, V, W, Z, O, aa, E, ay, az⟩ := (se [ax, ag, al, ak] dT).g12 ah ai af aj V W Z O aa E ay az
    replace ⟨J, aF⟩ := (se [ax, ag, al, ak] dT).g2 J aF
    clear dT
    cases mP : (fI == fK)
    ·exact .r 3 <| .d <| .ct <| .s <| .g <| .r 1 <| .d <| .rt Tryz.func11 Tryz.results11 (.bool false) ⟨(congrArg Value.bool (by have q1 : SD C ∧ (_ ∧ _) := (by assumption); exfalso; exact merge_hi q1.1 (by assumption) (by assumption) (by assumption) (by assumption) (by assumption))), J⟩
    exact .r 3 <| .d <| .cf <| .sk <| .ib 1 <| .g <| .r 1 <| RG.int ((k : Int) + 1) (by kernel_rfl) (by omega) <| .r 1 <| .d <| aX (k + 1) _ _ ⟨by kernel_rfl, by kernel_rfl, by kernel_rfl, by kernel_rfl, by kernel_rfl, by kernel_rfl, trivial⟩ ⟨aF, (by omega)⟩ (by omega)
   refine .r [21, 22, 23, 24, 25, 26, 27, 28, 29, 30, 31, 32] <| .d fun rc dU => ?_
   replace ⟨ah, ai, af, aj, V, W, Z, O, aa, E, ay, az⟩ := (se [ax, ag, al, ak] dU).g12 ah ai af aj V W Z O aa E ay az
   replace ⟨J, aF⟩ := (se [ax, ag, al, ak] dU).g2 J aF
   clear dU
   exact .r 4 <| .d <| .cf <| .sk <| .ib 1 <| .g <| .r 1 <| RG.int ((k : Int) + 1) (by kernel_rfl) (by omega) <| .r 1 <| .d <| aX (k + 1) _ _ ⟨by kernel_rfl, by kernel_rfl, by kernel_rfl, by kernel_rfl, by kernel_rfl, by kernel_rfl, trivial⟩ ⟨aF, (by omega)⟩ (by omega)
  refine .d <| .cf <| .x 0 rfl <| .s <| .gd nil 23 fun rd dV => ?_
  replace ⟨ah, ai, af, aj, V, W, Z, O, aa, E, ay, az⟩ := (se [ax, ag, al, ak] dV).g12 ah ai af aj V W Z O aa E ay az
  replace J := (se [ax, ag, al, ak] dV).g1 J
  clear dV
  refine .r [0, 1, 2, 3, 4, 5, 6, 7, 8, 9, 10, 11, 12, 13, 14, 15, 16, 17, 18, 19, 20, 21, 22] <| .d fun re dW => ?_
  replace ⟨ah, ai, af, aj, V, W, Z, O, aa, E, ay, az⟩ := (se [ax, ag, al, ak] dW).g12 ah ai af aj V W Z O aa E ay az
  replace J := (se [ax, ag, al, ak] dW).g1 J
  clear dW
  exact .r 7 <| .d <| .rt Tryz.func11 Tryz.results11 (.bool false) ⟨(congrArg Value.bool (by have q1 : SD C ∧ (_ ∧ _) := (by assumption); exfalso; exact merge_nf q1.1 (by assumption) (by assumption) (by assumption) (by assumption))), J⟩
 refine .r [14] <| .go 16 <| GE.storeB (t' := 75) (o := 0) (v := .agg #[.slice ew ((((mergQ aN aO).1).ids).length) ex, .slice ey ((((mergQ aN aO).1).blocks).length) ez]) [.slice ew ((((mergQ aN aO).1).ids).length) ex, .slice ey ((((mergQ aN aO).1).blocks).length) ez] aR (by kernel_rfl) (by kernel_rfl) (by kernel_rfl) fun rf dX => ?_
 replace ⟨ah, ai, af, aj, V, W, Z, O, aa, E, ay, az⟩ := (se [ax, ag, al, ak] dX).g12 ah ai af aj V W Z O aa E ay az
 replace J := (se [ax, ag, al, ak] dX).g1 J
 clear dX
 intro rg bI aG jf
 have hkeep_ := Chg.toS bI (Cov.toS fu)
 clear jf
 replace ⟨ah, ai, af, aj, V, W, Z, O, aa, E, ay, az⟩ := (so [ax, ag, al, ak] bI).g12 ah ai af aj V W Z O aa E ay az
 replace J := (so [ax, ag, al, ak] bI).g1 J
 clear bI
 refine ⟨hkeep_, ?_⟩
 refine .d fun gu dY => ?_
 replace ⟨ah, ai, af, aj, V, W, Z, O, aa, E, aG, ay⟩ := (se [ax, ag, al, ak] dY).g12 ah ai af aj V W Z O aa E aG ay
 replace ⟨az, J⟩ := (se [ax, ag, al, ak] dY).g2 az J
 clear dY
 replace ah := ah.outof
 replace ai := ai.outof
 replace af := af.outof
 replace aj := aj.outof
 replace W := W.outof
 replace Z := Z.outof
 replace O := O.outof
 replace aa := aa.outof
 refine .r 1 <| .d <| .s <| .s <| .g <| .r 1 <| .d <| .b 0 <| T.loop (X := Nat) 0 (fun k => [(3, .pointer (some ⟨ak, 0, none⟩)), (4, vI ae), (7, .pointer (some ⟨ag, 0, none⟩)), (9, .pointer (some ⟨ax, 0, none⟩)), (10, .bool true), (11, vI (k : Int))]) (fun k fL => Chg (ins []) gu fL ∧ (k ≤ (mergeT C ae).1.parts.length)) (fun k => (mergeT C ae).1.parts.length - k) (by kernel_rfl) ⟨by kernel_rfl, by kernel_rfl, by kernel_rfl, by kernel_rfl, by kernel_rfl, by kernel_rfl, trivial⟩ ⟨Chg.refl _ _, (by omega)⟩ ?_
 rintro k rh fL ⟨aH, mQ⟩ aY
 have dZ : Mv [ax, ag, al, ak] [ax, ag, al, ak] gu fL := Mv.inl aH all_nil (all_cons (.inl (.head _)) (all_cons (.inl (.tail _ (.head _))) (all_cons (.inl (.tail _ (.tail _ (.head _)))) (all_cons (.inl (.tail _ (.tail _ (.tail _ (.head _))))) all_nil))))
 replace ⟨ah, ai, af, aj, V, W, Z, O, aa, E, aG, ay⟩ := (sp dZ aH).g12 ah ai af aj V W Z O aa E aG ay
 replace ⟨az, J⟩ := (sp dZ aH).g2 az J
 clear dZ
 refine .s <| .s <| .g <| .r 2 <| .lb E <| .r 1 <| .bp ((k : Int) < (((((mergeT C ae).1).parts).length) : Int)) (fun jg => ?_) (fun jg => ?_)
 ·refine .d <| .ct <| .sk <| .s <| .b 1 <| .s <| .gd nil 33 fun rj d0 => ?_
  replace ⟨ah, ai, af, aj, V, W, Z, O, aa, E, aG, ay⟩ := (se [ax, ag, al, ak] d0).g12 ah ai af aj V W Z O aa E aG ay
  replace ⟨az, J, aH⟩ := (se [ax, ag, al, ak] d0).g3 az J aH
  clear d0
  refine .r [0, 1] <| GA.boolP (i := 2) ((k : Int) < ae) (by kernel_rfl) (fun jh => ?_) (fun jh => ?_)
  ·refine .r [3, 4] <| .lb 5 E id <| .r [6] ?_
   have fM : k < (((mergeT C ae).1).parts).length := (by omega)
   refine GA.idx (i := 7) k (len := (((mergeT C ae).1).parts).length) (z := (k : Int)) (sz := 2) (by kernel_rfl) (by omega) fM (O.addr (Nat.zero_lt_of_lt fM)) ?_
   obtain ⟨cg, d3⟩ : ∃ y, (((mergeT C ae).1).parts)[k]? = some y := ⟨_, List.getElem?_eq_getElem (by omega)⟩
   have mR := drop_at d3; have kp := List.mem_of_getElem? d3
   obtain ⟨_, ⟨rk, rl, rm, ro, rp, rq, rfl, bo, bq⟩, fN⟩ := O.elem k cg d3
   have ji := bo.len
   subst ji
   have mS := bo.max
   have jj := bq.len
   subst jj
   have mT := bq.max
   refine .lg 8 0 fN id <| .r [9] <| .lb 10 V id <| .r [11] ?_
   have fO : k < C.parts.length := (by omega)
   refine GA.idx (i := 12) k (len := C.parts.length) (z := (k : Int)) (sz := 2) (by kernel_rfl) (by omega) fO (af.addr (Nat.zero_lt_of_lt fO)) ?_
   obtain ⟨fP, d4⟩ : ∃ y, C.parts[k]? = some y := ⟨_, List.getElem?_eq_getElem (by omega)⟩
   have mU := drop_at d4; have kq := List.mem_of_getElem? d4
   obtain ⟨_, ⟨rr, ru, rx, ry, rz, rA, rfl, fQ, fR⟩, jk⟩ := af.elem k fP d4
   have jl := fQ.len
   subst jl
   have mV := fQ.max
   have jm := fR.len
   subst jm
   have mW := fR.max
   refine .lg 13 0 jk id <| GA.call1 (i := 14) (by kernel_rfl) (fun kr bJ => c_laws_lyPart cg fP (bo.ta.ext bJ) (bq.ta.ext bJ) (fQ.ta.ext bJ) (fR.ta.ext bJ) (w := kr) (F := all)) ?_
   cases mX : (cg == fP)
   ·refine .r [15, 16, 17, 18, 19, 20, 21, 22, 23, 24, 25, 26, 27, 28, 29, 30, 31, 32] <| .d fun rB d5 => ?_
    replace ⟨ah, ai, af, aj, V, W, Z, O, aa, E, aG, ay⟩ := (se [ax, ag, al, ak] d5).g12 ah ai af aj V W Z O aa E aG ay
    replace ⟨az, bo, bq, J, aH⟩ := (se [ax, ag, al, ak] d5).g5 az bo bq J aH
    clear d5
    exact .r 4 <| .d <| .ct <| .s <| .g <| .r 1 <| .d <| .rt Tryz.func11 Tryz.results11 (.bool false) ⟨(congrArg Value.bool (by have q1 : SD C ∧ (_ ∧ _) := (by assumption); exfalso; exact merge_lo q1.1 (by assumption) (by assumption) (by assumption) (by assumption) (by assumption))), J⟩
   refine .r [15, 16, 17, 18, 19] <| GA.boolP (i := 20) ((k : Int) > ae) (by kernel_rfl) (fun jn => ?_) (fun jn => ?_)
   ·refine .r [21, 22] <| .lb 23 E id <| .r [24] ?_
    have fS : k < (((mergeT C ae).1).parts).length := (by omega)
    refine GA.idx (i := 25) k (len := (((mergeT C ae).1).parts).length) (z := (k : Int)) (sz := 2) (by kernel_rfl) (by omega) fS (O.addr (Nat.zero_lt_of_lt fS)) <| .lg 26 0 fN id <| .r [27] <| .lb 28 V id <| .r [29] <| GA.int (i := 30) ((k : Int) + 1) (by kernel_rfl) (by omega) ?_
    have fT : k + 1 < C.parts.length := (by omega)
    refine GA.idx (i := 31) (k + 1) (len := C.parts.length) (z := (k : Int) + 1) (sz := 2) (by kernel_rfl) (by omega) fT (af.addr (Nat.zero_lt_of_lt fT)) ?_
    obtain ⟨fU, d6⟩ : ∃ y, C.parts[k + 1]? = some y := ⟨_, List.getElem?_eq_getElem (by omega)⟩
    have mY := drop_at d6; have ks := List.mem_of_getElem? d6
    obtain ⟨_, ⟨rC, rD, rE, rF, rG, rH, rfl, ci, cj⟩, jo⟩ := af.elem (k + 1) fU d6
    have jp := ci.len
    subst jp
    have mZ := ci.max
    have jq := cj.len
    subst jq
    have m0 := cj.max
    refine .lg 32 0 jo id <| .d fun kt d7 => ?_
    replace ⟨ah, ai, af, aj, V, W, Z, O, aa, E, aG, ay⟩ := (se [ax, ag, al, ak] d7).g12 ah ai af aj V W Z O aa E aG ay
    replace ⟨az, bo, bq, ci, cj, J, aH⟩ := (se [ax, ag, al, ak] d7).g7 az bo bq ci cj J aH
    clear d7
    refine .cl (c_laws_lyPart cg fU bo.ta bq.ta ci.ta cj.ta (w := kt) (F := all)) ?_
    rintro rI rJ ⟨rfl, d8⟩
    replace ⟨ah, ai, af, aj, V, W, Z, O, aa, E, aG, ay⟩ := (se [ax, ag, al, ak] d8).g12 ah ai af aj V W Z O aa E aG ay
    replace ⟨az, J, aH⟩ := (se [ax, ag, al, ak] d8).g3 az J aH
    clear d8
    cases m5 : (cg == fU)
    ·exact .r 3 <| .d <| .ct <| .s <| .g <| .r 1 <| .d <| .rt Tryz.func11 Tryz.results11 (.bool false) ⟨(congrArg Value.bool (by have q1 : SD C ∧ (_ ∧ _) := (by assumption); exfalso; exact merge_hi q1.1 (by assumption) (by assumption) (by assumption) (by assumption) (by assumption))), J⟩
    exact .r 3 <| .d <| .cf <| .sk <| .ib 1 <| .g <| .r 1 <| RG.int ((k : Int) + 1) (by kernel_rfl) (by omega) <| .r 1 <| .d <| aY (k + 1) _ _ ⟨by kernel_rfl, by kernel_rfl, by kernel_rfl, by kernel_rfl, by kernel_rfl, by kernel_rfl, trivial⟩ ⟨aH, (by omega)⟩ (by omega)
   refine .r [21, 22, 23, 24, 25, 26, 27, 28, 29, 30, 31, 32] <| .d fun rK d9 => ?_
   replace ⟨ah, ai, af, aj, V, W, Z, O, aa, E, aG, ay⟩ := (se [ax, ag, al, ak] d9).g12 ah ai af aj V W Z O aa E aG ay
   replace ⟨az, J, aH⟩ := (se [ax, ag, al, ak] d9).g3 az J aH
   clear d9
   exact .r 4 <| .d <| .cf <| .sk <| .ib 1 <| .g <| .r 1 <| RG.int ((k : Int) + 1) (by kernel_rfl) (by omega) <| .r 1 <| .d <| aY (k + 1) _ _ ⟨by kernel_rfl, by kernel_rfl, by kernel_rfl, by kernel_rfl, by kernel_rfl, by kernel_rfl, trivial⟩ ⟨aH, (by omega)⟩ (by omega)
  refine .r [3, 4, 5, 6, 7, 8, 9, 10, 11, 12, 13, 14, 15, 16, 17, 18, 19] <| GA.boolP (i := 20) ((k : Int) > ae) (by kernel_rfl) (fun jr => ?_) (fun jr => ?_)
  ·refine .r [21, 22] <| .lb 23 E id <| .r [24] ?_
   have fV : k < (((mergeT C ae).1).parts).length := (by omega)
   refine GA.idx (i := 25) k (len := (((mergeT C ae).1).parts).length) (z := (k : Int)) (sz := 2) (by kernel_rfl) (by omega) fV (O.addr (Nat.zero_lt_of_lt fV)) ?_
   obtain ⟨fW, ec⟩ : ∃ y, (((mergeT C ae).1).parts)[k]? = some y := ⟨_, List.getElem?_eq_getElem (by omega)⟩
   have m6 := drop_at ec; have ku := List.mem_of_getElem? ec
   obtain ⟨_, ⟨rL, rM, rN, rO, rP, rQ, rfl, ck, cm⟩, js⟩ := O.elem k fW ec
   have jt := ck.len
   subst jt
   have m7 := ck.max
   have ju := cm.len
   subst ju
   have m8 := cm.max
   refine .lg 26 0 js id <| .r [27] <| .lb 28 V id <| .r [29] <| GA.int (i := 30) ((k : Int) + 1) (by kernel_rfl) (by omega) ?_
   have fX : k + 1 < C.parts.length := (by (have q1 : SD C ∧ (_ ∧ _) := (by assumption); have q2 := merge_len q1.1 (by assumption); omega))
   refine GA.idx (i := 31) (k + 1) (len := C.parts.length) (z := (k : Int) + 1) (sz := 2) (by kernel_rfl) (by omega) fX (af.addr (Nat.zero_lt_of_lt fX)) ?_
   obtain ⟨fY, ed⟩ : ∃ y, C.parts[k + 1]? = some y := ⟨_, List.getElem?_eq_getElem (by omega)⟩
   have m9 := drop_at ed; have kv := List.mem_of_getElem? ed
   obtain ⟨_, ⟨rR, rS, rT, rU, rV, rW, rfl, co, cp⟩, jv⟩ := af.elem (k + 1) fY ed
   have jw := co.len
   subst jw
   have nc := co.max
   have jx := cp.len
   subst jx
   have ng := cp.max
   refine .lg 32 0 jv id <| .d fun kw ee => ?_
   replace ⟨ah, ai, af, aj, V, W, Z, O, aa, E, aG, ay⟩ := (se [ax, ag, al, ak] ee).g12 ah ai af aj V W Z O aa E aG ay
   replace ⟨az, ck, cm, co, cp, J, aH⟩ := (se [ax, ag, al, ak] ee).g7 az ck cm co cp J aH
   clear ee
   refine .cl (c_laws_lyPart fW fY ck.ta cm.ta co.ta cp.ta (w := kw) (F := all)) ?_
   rintro rX rY ⟨rfl, ef⟩
   replace ⟨ah, ai, af, aj, V, W, Z, O, aa, E, aG, ay⟩ := (se [ax, ag, al, ak] ef).g12 ah ai af aj V W Z O aa E aG ay
   replace ⟨az, J, aH⟩ := (se [ax, ag, al, ak] ef).g3 az J aH
   clear ef
   cases nh : (fW == fY)
   ·exact .r 3 <| .d <| .ct <| .s <| .g <| .r 1 <| .d <| .rt Tryz.func11 Tryz.results11 (.bool false) ⟨(congrArg Value.bool (by have q1 : SD C ∧ (_ ∧ _) := (by assumption); exfalso; exact merge_hi q1.1 (by assumption) (by assumption) (by assumption) (by assumption) (by assumption))), J⟩
   exact .r 3 <| .d <| .cf <| .sk <| .ib 1 <| .g <| .r 1 <| RG.int ((k : Int) + 1) (by kernel_rfl) (by omega) <| .r 1 <| .d <| aY (k + 1) _ _ ⟨by kernel_rfl, by kernel_rfl, by kernel_rfl, by kernel_rfl, by kernel_rfl, by kernel_rfl, trivial⟩ ⟨aH, (by omega)⟩ (by omega)
  refine .r [21, 22, 23, 24, 25, 26, 27, 28, 29, 30, 31, 32] <| .d fun rZ eg => ?_
  replace ⟨ah, ai, af, aj, V, W, Z, O, aa, E, aG, ay⟩ := (se [ax, ag, al, ak] eg).g12 ah ai af aj V W Z O aa E aG ay
  replace ⟨az, J, aH⟩ := (se [ax, ag, al, ak] eg).g3 az J aH
  clear eg
  exact .r 4 <| .d <| .cf <| .sk <| .ib 1 <| .g <| .r 1 <| RG.int ((k : Int) + 1) (by kernel_rfl) (by omega) <| .r 1 <| .d <| aY (k + 1) _ _ ⟨by kernel_rfl, by kernel_rfl, by kernel_rfl, by kernel_rfl, by kernel_rfl, by kernel_rfl, trivial⟩ ⟨aH, (by omega)⟩ (by omega)
 refine .d <| .cf <| .x 0 rfl <| .s <| .gd nil 23 fun r5 eh => ?_
 replace ⟨ah, ai, af, aj, V, W, Z, O, aa, E, aG, ay⟩ := (se [ax, ag, al, ak] eh).g12 ah ai af aj V W Z O aa E aG ay
 replace ⟨az, J⟩ := (se [ax, ag, al, ak] eh).g2 az J
 clear eh
 refine .r [0, 1, 2] <| .lb 3 E id <| .r [4] ?_
 have fZ : (ae).toNat < (((mergeT C ae).1).parts).length := (by (have q1 : SD C ∧ (_ ∧ _) := (by assumption); have q2 := merge_len q1.1 (by assumption); omega))
 refine GA.idx (i := 5) ((ae).toNat) (len := (((mergeT C ae).1).parts).length) (z := ae) (sz := 2) (by kernel_rfl) (by (have q1 : SD C ∧ (_ ∧ _) := (by assumption); have q2 := merge_len q1.1 (by assumption); omega)) fZ (O.addr (Nat.zero_lt_of_lt fZ)) ?_
 obtain ⟨f0, ei⟩ : ∃ y, (((mergeT C ae).1).parts)[(ae).toNat]? = some y := ⟨_, List.getElem?_eq_getElem (by omega)⟩
 have ni := drop_at ei; have kx := List.mem_of_getElem? ei
 obtain ⟨_, ⟨r6, r7, r8, r9, sf, sg, rfl, f3, f4⟩, jy⟩ := O.elem ((ae).toNat) f0 ei
 have jz := f3.len
 subst jz
 have nj := f3.max
 have jA := f4.len
 subst jA
 have ky := f4.max
 refine .lg 6 0 jy id <| .ln 7 aG id <| GA.call1 (i := 8) (by kernel_rfl) (fun jB br => c_laws_lyPart f0 ((mergQ aN aO).1) (f3.ta.ext br) (f4.ta.ext br) (ay.ta.ext br) (az.ta.ext br) (w := jB) (F := all)) ?_
 cases kz : (f0 == ((mergQ aN aO).1))
 ·refine .r [9, 10, 11, 12, 13, 14, 15, 16, 17, 18, 19, 20, 21, 22] <| .d fun nk eA => ?_
  replace ⟨ah, ai, af, aj, V, W, Z, O, aa, E, J⟩ := (se [ax, ag, al, ak] eA).g11 ah ai af aj V W Z O aa E J
  clear eA
  exact .r 7 <| .d <| .rt Tryz.func11 Tryz.results11 (.bool false) ⟨(congrArg Value.bool (by have q1 : SD C ∧ (_ ∧ _) := (by assumption); exfalso; exact merge_md q1.1 (by assumption) (by assumption) (by assumption) (by assumption) (by assumption))), J⟩
 refine .r [9, 10, 11] <| .lb 12 E id <| .r [13, 14] <| .lb 15 V id <| .r [16] <| GA.int (i := 17) ((C.parts.length : Int) - 1) (by kernel_rfl) (by omega) <| GA.eqI (i := 18) (a := (((((mergeT C ae).1).parts).length) : Int)) (b := (C.parts.length : Int) - 1) (by kernel_rfl) (fun f5 => ?_) (fun f5 => ?_)
 ·refine .r [19, 20] <| .ln 21 E id <| .ln 22 V id <| .d fun jC eB => ?_
  replace ⟨ah, ai, af, aj, W, Z, O, aa, E, J⟩ := (se [ax, ag, al, ak] eB).g10 ah ai af aj W Z O aa E J
  clear eB
  refine .cl (c_laws_lySays (⟨(⟨(((mergeT C ae).1).idx).names, (((mergeT C ae).1).idx).posts⟩ : Idx), ((mergeT C ae).1).parts, ((mergeT C ae).1).mem⟩ : Sto) C W.ta Z.ta O.ta aa.ta ah.ta ai.ta af.ta aj.ta (by have q1 : SD C ∧ (_ ∧ _) := (by assumption); exact merge_sd q1.1 (by assumption)) (by have q1 : SD C ∧ (_ ∧ _) := (by assumption); exact q1.1) (w := jC) (F := all)) ?_
  rintro nq jD ⟨rfl, eC⟩
  replace ⟨W, Z, O, aa, E, J⟩ := (se [ax, ag, al, ak] eC).g6 W Z O aa E J
  clear eC
  cases kA : (askS (⟨(⟨(((mergeT C ae).1).idx).names, (((mergeT C ae).1).idx).posts⟩ : Idx), ((mergeT C ae).1).parts, ((mergeT C ae).1).mem⟩ : Sto) [] 0 99 == askS C [] 0 99)
  ·exact .r 6 <| .d <| .rt Tryz.func11 Tryz.results11 (.bool false) ⟨(congrArg Value.bool (by have q1 : SD C ∧ (_ ∧ _) := (by assumption); exfalso; exact merge_f q1.1 (by assumption) (by assumption))), J⟩
  refine .r 2 <| .ln E <| .cl (c_impl_StoreOk (⟨(⟨(((mergeT C ae).1).idx).names, (((mergeT C ae).1).idx).posts⟩ : Idx), ((mergeT C ae).1).parts, ((mergeT C ae).1).mem⟩ : Sto) W.ta Z.ta O.ta aa.ta (by have q1 : SD C ∧ (_ ∧ _) := (by assumption); exact merge_sd q1.1 (by assumption)) (w := jD) (F := all)) ?_
  rintro nt nu ⟨rfl, eD⟩
  replace J := (se [] eD).g1 J
  clear eD
  exact .r 2 <| .d <| .rt Tryz.func11 Tryz.results11 (.bool (storeOk (⟨(⟨(((mergeT C ae).1).idx).names, (((mergeT C ae).1).idx).posts⟩ : Idx), ((mergeT C ae).1).parts, ((mergeT C ae).1).mem⟩ : Sto))) ⟨(congrArg Value.bool (by (have q1 : SD C ∧ (_ ∧ _) := (by assumption); exact (merge_says q1.1 (by assumption)).2))), J⟩
 refine .r [19, 20, 21, 22] <| .d fun nv eE => ?_
 replace J := (se [] eE).g1 J
 clear eE
 exact .r 7 <| .d <| .rt Tryz.func11 Tryz.results11 (.bool false) ⟨(congrArg Value.bool (by have q1 : SD C ∧ (_ ∧ _) := (by assumption); exfalso; (have q2 := merge_len q1.1 (by assumption); omega))), J⟩
end Go.Proofs.YtfnpaglcnmcnbaaGreat
