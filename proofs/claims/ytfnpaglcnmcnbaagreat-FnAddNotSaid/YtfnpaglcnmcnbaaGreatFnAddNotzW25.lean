/- walks; squeezed -/
import Derived.Test.YtfnpaglcnmcnbaaGreatFnAddNotzW24
set_option linter.unusedVariables false
set_option linter.unusedSimpArgs false
namespace Go.Proofs.YtfnpaglcnmcnbaaGreat
set_option maxRecDepth 100000
set_option maxHeartbeats 4000000
theorem c_laws_FnAddNot (code : List UInt8) {w : World} {F : Nat → Prop} {a1 : Option Addr} {n1 c1 : Nat} (h1 : RepS w F a1 n1 c1 code)  : Calls Tryz.prog 3 [.slice a1 n1 c1].toArray w (rets fun rv w' => rv = .bool (true) ∧ Ext w w') := by
 refine goT Tryz.func3 ?_
 obtain ⟨rfl, gF, h1⟩ := h1.tp
 refine .s <| .g <| .r 1 <| .d <| .s <| .s <| .g <| .r 2 <| .bp ((code.length : Int) > 1048576) (fun eK => .d <| .ct <| .s <| .g <| .r 1 <| .d <| .rt Tryz.func3 Tryz.results3 (.bool true) ⟨(congrArg Value.bool (by rfl)), (Chg.refl _ _)⟩) fun eK => .d <| .cf <| .sk <| .s <| .g <| .r 1 <| .cl (c_spec_DrawStoreAdd code h1 (w := w) (F := nin (fo F w.heap.size) [])) ?_
 rintro jL jM ⟨⟨J, W, Z, ⟨jN, jO, jP, rfl, ⟨_, rfl, ⟨fa, jQ, fb, fc, jR, fd, fe, jS, ff, fg, jT, fh, rfl, aj, ak, al, am⟩⟩, ⟨jU, jV, rfl, au⟩, ⟨_, rfl, rfl⟩⟩, gG⟩, dq⟩
 have aZ : ∀ q_ ∈ ([] : List Nat), q_ < w.heap.size := all_nil
 have br : Gb w.heap.size w.heap.size := (Nat.le_refl _)
 have E := dq
 clear dq
 replace aj := RepS.mixed' (M := []) aj aZ br
 have gH := aj.max
 replace ak := RepS.mixed' (M := []) ak aZ br
 have gI := ak.max
 replace al := RepS.mixed' (M := []) al aZ br
 have gJ := al.max
 replace am := RepS.mixed' (M := []) am aZ br
 have gK := am.max
 replace au := RepS.mixed' (M := []) au aZ br
 have gL := au.max
 clear aZ
 have eL := aj.len
 subst eL
 have eM := ak.len
 subst eM
 have eN := al.len
 subst eN
 have eO := am.len
 subst eO
 refine .r 4 <| .np 30 [.slice none 0 0, .slice none 0 0, .slice none 0 0, .slice none 0 0] fun ao jW cF dr cz eP => ?_
 have gM := E.cn cF
 replace ⟨aj, ak, al, am, au, E⟩ := (sn [] dr cF).g6 aj ak al am au E
 clear dr eP cF
 refine .np 33 [vI 0, vI 0] fun aq jX cA dt cG eQ => ?_
 have gN := nb_new cA cz.lt
 have gO := E.cn cA
 replace ⟨aj, ak, al, am, au, cz, E⟩ := (sn [ao] dt cA).g7 aj ak al am au cz E
 clear dt eQ cA
 refine .sc [.slice fa J.idx.names.length fb, .slice fc J.idx.posts.length fd, .slice fe J.parts.length ff, .slice fg J.mem.length fh] cz fun jY du O eR => ?_
 replace ⟨aj, ak, al, am, au, cG, E⟩ := (so [aq, ao] du).g7 aj ak al am au cG E
 clear du eR
 refine .r 1 <| .sc [vI Z.t, vI Z.v] cG fun eS dv V eT => ?_
 replace ⟨aj, ak, al, am, au, O, E⟩ := (so [aq, ao] dv).g7 aj ak al am au O E
 clear dv eT
 refine .d <| .s <| .g <| .ln O <| .r 1 <| .ln V <| .cl (c_spec_StoreAdd J W Z aj ak al am au (by have q1 : SD _ ∧ NmD _ ∧ RowSm _ := (by assumption); first | exact q1.1 | exact addP_sd q1.1 q1.2.1 (by assumption) | exact addP_sd (addP_sd q1.1 q1.2.1 (by assumption)) q1.2.1 (by assumption)) (by have q1 : SD _ ∧ NmD _ ∧ RowSm _ := (by assumption); exact NmD.sz q1.2.1) (w := eS) (F := nin (fo F w.heap.size) [aq, ao])) ?_
 rintro jZ j0 ⟨⟨gP, rfl, ⟨_, rfl, ⟨fi, j1, fj, fk, j2, fl, fm, j3, fp, eU, gQ, eV, rfl, av, aw, ab, ac⟩⟩⟩, dw⟩
 have aW := al2 V.lt O.lt
 have bh : Gb w.heap.size eS.heap.size := E.size
 replace ⟨aj, ak, al, am, au, O, V, E⟩ := (se [aq, ao] dw).g8 aj ak al am au O V E
 clear dw
 replace av := RepS.mixed' (M := [aq, ao]) av aW bh
 have fq := av.max
 replace aw := RepS.mixed' (M := [aq, ao]) aw aW bh
 have ft := aw.max
 replace ab := RepS.mixed' (M := [aq, ao]) ab aW bh
 have fu := ab.max
 replace ac := RepS.mixed' (M := [aq, ao]) ac aW bh
 have fv := ac.max
 clear aW
 have dU := av.len
 subst dU
 have dV := aw.len
 subst dV
 have dW := ab.len
 subst dW
 have dX := ac.len
 subst dX
 refine .r 3 <| .np 30 [.slice none 0 0, .slice none 0 0, .slice none 0 0, .slice none 0 0] fun aa gR aX cH dY dZ => ?_
 have fw := nb_new aX O.lt
 have fx := nb_new aX V.lt
 have fy := E.cn aX
 replace ⟨aj, ak, al, am, au, O, V, av, aw, ab, ac, E⟩ := (sn [aq, ao] cH aX).g12 aj ak al am au O V av aw ab ac E
 clear cH dZ aX
 refine .sc [.slice fi (((((addP J W Z).1).idx).names).length) fj, .slice fk (((((addP J W Z).1).idx).posts).length) fl, .slice fm ((((addP J W Z).1).parts).length) fp, .slice eU ((((addP J W Z).1).mem).length) eV] dY fun dx cI C d0 => ?_
 replace ⟨aj, ak, al, am, au, O, V, av, aw, ab, ac, E⟩ := (so [aa, aq, ao] cI).g12 aj ak al am au O V av aw ab ac E
 clear cI d0
 refine .r 1 <| .d <| .s <| .g <| .ln O <| .r 1 <| .ln V <| .cl (c_impl_StoreAdd J W Z aj ak al am au (by have q1 : SD _ ∧ NmD _ ∧ RowSm _ := (by assumption); first | exact q1.1 | exact addP_sd q1.1 q1.2.1 (by assumption) | exact addP_sd (addP_sd q1.1 q1.2.1 (by assumption)) q1.2.1 (by assumption)) (by have q1 : SD _ ∧ NmD _ ∧ RowSm _ := (by assumption); exact q1.2.1) (w := dx) (F := nin (fo F w.heap.size) [aa, aq, ao])) ?_
 rintro gS gT ⟨⟨gU, rfl, ⟨_, rfl, ⟨dy, gV, dz, dA, gW, dB, dC, gX, dD, dE, gY, dF, rfl, ae, af, ag, ah⟩⟩⟩, bA⟩
 have aY := al3 C.lt V.lt O.lt
 have bi : Gb w.heap.size dx.heap.size := E.size
 replace ⟨aj, ak, al, am, au, O, V, av, aw, ab, ac, C⟩ := (se [aa, aq, ao] bA).g12 aj ak al am au O V av aw ab ac C
 replace E := (se [aa, aq, ao] bA).g1 E
 clear bA
 replace ae := RepS.mixed' (M := [aa, aq, ao]) ae aY bi
 replace af := RepS.mixed' (M := [aa, aq, ao]) af aY bi
 replace ag := RepS.mixed' (M := [aa, aq, ao]) ag aY bi
 replace ah := RepS.mixed' (M := [aa, aq, ao]) ah aY bi
 clear aY
 have d3 := ae.len
 subst d3
 have d4 := af.len
 subst d4
 have d5 := ag.len
 subst d5
 have d6 := ah.len
 subst d6
 refine .r 2 ?_
 cases fz : (addP J W Z).2
 · refine .r 1 <| .np 30 [.slice none 0 0, .slice none 0 0, .slice none 0 0, .slice none 0 0] fun ax gZ aO bB d7 d8 => ?_
   have fA := nb_new aO O.lt
   have fB := nb_new aO V.lt
   have fC := nb_new aO C.lt
   have fD := E.cn aO
   replace ⟨aj, ak, al, am, au, O, V, av, aw, ab, ac, C⟩ := (sn [aa, aq, ao] bB aO).g12 aj ak al am au O V av aw ab ac C
   replace ⟨ae, af, ag, ah, E⟩ := (sn [aa, aq, ao] bB aO).g5 ae af ag ah E
   clear bB d8 aO
   refine .sc [.slice dy (((((addP J W Z).1).idx).names).length) dz, .slice dA (((((addP J W Z).1).idx).posts).length) dB, .slice dC ((((addP J W Z).1).parts).length) dD, .slice dE ((((addP J W Z).1).mem).length) dF] d7 fun eW bC ai d9 => ?_
   replace ⟨aj, ak, al, am, au, O, V, av, aw, ab, ac, C⟩ := (so [ax, aa, aq, ao] bC).g12 aj ak al am au O V av aw ab ac C
   replace ⟨ae, af, ag, ah, E⟩ := (so [ax, aa, aq, ao] bC).g5 ae af ag ah E
   clear bC d9
   refine .r 1 <| .d <| .s <| .s <| .g <| .r 2 <| RG.eqv (v := .bool false) (v' := .bool (false != false)) (by kernel_rfl) (by simp) <| .r 1 <| .ln ai <| .ln C <| .cl (c_laws_lyStore (⟨(⟨(((addP J W Z).1).idx).names, (((addP J W Z).1).idx).posts⟩ : Idx), ((addP J W Z).1).parts, ((addP J W Z).1).mem⟩ : Sto) (⟨(⟨(((addP J W Z).1).idx).names, (((addP J W Z).1).idx).posts⟩ : Idx), ((addP J W Z).1).parts, ((addP J W Z).1).mem⟩ : Sto) ae.ta af.ta ag.ta ah.ta av.ta aw.ta ab.ta ac.ta (w := eW) (F := all)) ?_
   rintro g0 dG ⟨rfl, bD⟩
   replace ⟨aj, ak, al, am, au, O, V, av, aw, ab, ac, C⟩ := (se [ax, aa, aq, ao] bD).g12 aj ak al am au O V av aw ab ac C
   replace ⟨ae, af, ag, ah, ai, E⟩ := (se [ax, aa, aq, ao] bD).g6 ae af ag ah ai E
   clear bD
   cases fE : ((⟨(⟨(((addP J W Z).1).idx).names, (((addP J W Z).1).idx).posts⟩ : Idx), ((addP J W Z).1).parts, ((addP J W Z).1).mem⟩ : Sto) == (⟨(⟨(((addP J W Z).1).idx).names, (((addP J W Z).1).idx).posts⟩ : Idx), ((addP J W Z).1).parts, ((addP J W Z).1).mem⟩ : Sto))
   · refine .r 18 <| .d <| .ct <| .s <| .g <| .r 2 <| RG.eqv (v := .bool true) (v' := .bool (false == false)) (by kernel_rfl) (by simp) <| .r 1 <| .ln ai <| .ln C <| .cl (c_laws_lyStore (⟨(⟨(((addP J W Z).1).idx).names, (((addP J W Z).1).idx).posts⟩ : Idx), ((addP J W Z).1).parts, ((addP J W Z).1).mem⟩ : Sto) (⟨(⟨(((addP J W Z).1).idx).names, (((addP J W Z).1).idx).posts⟩ : Idx), ((addP J W Z).1).parts, ((addP J W Z).1).mem⟩ : Sto) ae.ta af.ta ag.ta ah.ta av.ta aw.ta ab.ta ac.ta (w := dG) (F := all)) ?_
     rintro hC hD ⟨rfl, bE⟩
     replace ⟨aj, ak, al, am, au, O, V, av, aw, ab, ac, C⟩ := (se [ax, aa, aq, ao] bE).g12 aj ak al am au O V av aw ab ac C
     replace ⟨ae, af, ag, ah, ai, E⟩ := (se [ax, aa, aq, ao] bE).g6 ae af ag ah ai E
     clear bE
     exact .r 2 <| .d <| .rt Tryz.func3 Tryz.results3 (.bool ((⟨(⟨(((addP J W Z).1).idx).names, (((addP J W Z).1).idx).posts⟩ : Idx), ((addP J W Z).1).parts, ((addP J W Z).1).mem⟩ : Sto) == (⟨(⟨(((addP J W Z).1).idx).names, (((addP J W Z).1).idx).posts⟩ : Idx), ((addP J W Z).1).parts, ((addP J W Z).1).mem⟩ : Sto))) ⟨(congrArg Value.bool (by first | (have q1 : SD _ ∧ NmD _ ∧ RowSm _ := (by assumption); have q2 := law_not q1.1 (by assumption) (by assumption) (by assumption); simp_all; done) | (simp_all; done))), E⟩
   refine .r 3 <| .ln O <| .cl (c_spec_StoreOk J aj.ta ak.ta al.ta am.ta (by have q1 : SD _ ∧ NmD _ ∧ RowSm _ := (by assumption); first | exact q1.1 | exact addP_sd q1.1 q1.2.1 (by assumption) | exact addP_sd (addP_sd q1.1 q1.2.1 (by assumption)) q1.2.1 (by assumption)) (w := dG) (F := all)) ?_
   rintro hE dH ⟨rfl, bF⟩
   replace ⟨aj, ak, al, am, au, O, V, av, aw, ab, ac, C⟩ := (se [ax, aa, aq, ao] bF).g12 aj ak al am au O V av aw ab ac C
   replace ⟨ae, af, ag, ah, ai, E⟩ := (se [ax, aa, aq, ao] bF).g6 ae af ag ah ai E
   clear bF
   cases fF : (storeOk J)
   · refine .r 13 <| .d <| .ct <| .s <| .g <| .r 2 <| RG.eqv (v := .bool true) (v' := .bool (false == false)) (by kernel_rfl) (by simp) <| .r 1 <| .ln ai <| .ln C <| .cl (c_laws_lyStore (⟨(⟨(((addP J W Z).1).idx).names, (((addP J W Z).1).idx).posts⟩ : Idx), ((addP J W Z).1).parts, ((addP J W Z).1).mem⟩ : Sto) (⟨(⟨(((addP J W Z).1).idx).names, (((addP J W Z).1).idx).posts⟩ : Idx), ((addP J W Z).1).parts, ((addP J W Z).1).mem⟩ : Sto) ae.ta af.ta ag.ta ah.ta av.ta aw.ta ab.ta ac.ta (w := dH) (F := all)) ?_
     rintro hH hJ ⟨rfl, bG⟩
     replace ⟨aj, ak, al, am, au, O, V, av, aw, ab, ac, C⟩ := (se [ax, aa, aq, ao] bG).g12 aj ak al am au O V av aw ab ac C
     replace ⟨ae, af, ag, ah, ai, E⟩ := (se [ax, aa, aq, ao] bG).g6 ae af ag ah ai E
     clear bG
     exact .r 2 <| .d <| .rt Tryz.func3 Tryz.results3 (.bool ((⟨(⟨(((addP J W Z).1).idx).names, (((addP J W Z).1).idx).posts⟩ : Idx), ((addP J W Z).1).parts, ((addP J W Z).1).mem⟩ : Sto) == (⟨(⟨(((addP J W Z).1).idx).names, (((addP J W Z).1).idx).posts⟩ : Idx), ((addP J W Z).1).parts, ((addP J W Z).1).mem⟩ : Sto))) ⟨(congrArg Value.bool (by first | (have q1 : SD _ ∧ NmD _ ∧ RowSm _ := (by assumption); have q2 := law_not q1.1 (by assumption) (by assumption) (by assumption); simp_all; done) | (simp_all; done))), E⟩
   refine .r 4 <| .cl (c_spec_NameOk W au.ta (w := dH) (F := all)) ?_
   rintro hN eX ⟨rfl, bH⟩
   replace ⟨aj, ak, al, am, au, O, V, av, aw, ab, ac, C⟩ := (se [ax, aa, aq, ao] bH).g12 aj ak al am au O V av aw ab ac C
   replace ⟨ae, af, ag, ah, ai, E⟩ := (se [ax, aa, aq, ao] bH).g6 ae af ag ah ai E
   clear bH
   cases fG : (nameOk W)
   · refine .r 8 <| .d <| .ct <| .s <| .g <| .r 2 <| RG.eqv (v := .bool true) (v' := .bool (false == false)) (by kernel_rfl) (by simp) <| .r 1 <| .ln ai <| .ln C <| .cl (c_laws_lyStore (⟨(⟨(((addP J W Z).1).idx).names, (((addP J W Z).1).idx).posts⟩ : Idx), ((addP J W Z).1).parts, ((addP J W Z).1).mem⟩ : Sto) (⟨(⟨(((addP J W Z).1).idx).names, (((addP J W Z).1).idx).posts⟩ : Idx), ((addP J W Z).1).parts, ((addP J W Z).1).mem⟩ : Sto) ae.ta af.ta ag.ta ah.ta av.ta aw.ta ab.ta ac.ta (w := eX) (F := all)) ?_
     rintro hO hP ⟨rfl, bI⟩
     replace ⟨aj, ak, al, am, au, O, V, av, aw, ab, ac, C⟩ := (se [ax, aa, aq, ao] bI).g12 aj ak al am au O V av aw ab ac C
     replace ⟨ae, af, ag, ah, ai, E⟩ := (se [ax, aa, aq, ao] bI).g6 ae af ag ah ai E
     clear bI
     exact .r 2 <| .d <| .rt Tryz.func3 Tryz.results3 (.bool ((⟨(⟨(((addP J W Z).1).idx).names, (((addP J W Z).1).idx).posts⟩ : Idx), ((addP J W Z).1).parts, ((addP J W Z).1).mem⟩ : Sto) == (⟨(⟨(((addP J W Z).1).idx).names, (((addP J W Z).1).idx).posts⟩ : Idx), ((addP J W Z).1).parts, ((addP J W Z).1).mem⟩ : Sto))) ⟨(congrArg Value.bool (by first | (have q1 : SD _ ∧ NmD _ ∧ RowSm _ := (by assumption); have q2 := law_not q1.1 (by assumption) (by assumption) (by assumption); simp_all; done) | (simp_all; done))), E⟩
   refine .r 3 <| .ln V <| .ns 1 33 [vI Z.t, vI Z.v] fun aA dI bJ bK ea eb => ?_
   replace ⟨aj, ak, al, am, au, O, V, av, aw, ab, ac, C⟩ := (sn [ax, aa, aq, ao] bK bJ).g12 aj ak al am au O V av aw ab ac C
   replace ⟨ae, af, ag, ah, ai, E⟩ := (sn [ax, aa, aq, ao] bK bJ).g6 ae af ag ah ai E
   clear bK eb bJ
   have ay : Own (α := Row) dI aA 33 (nin (fo F w.heap.size) [aA, ax, aa, aq, ao]) 1 1 [Z] := Own.lit ea rfl (by decide) ⟨rfl, rfl⟩
   refine .cl (c_impl_BlockOk ([Z] : List Row) (ay.rep) (w := dI) (F := all)) ?_
   rintro hQ cJ ⟨rfl, bL⟩
   replace ⟨aj, ak, al, am, au, O, V, av, aw, ab, ac, C⟩ := (se [aA, ax, aa, aq, ao] bL).g12 aj ak al am au O V av aw ab ac C
   replace ⟨ae, af, ag, ah, ai, ay, E⟩ := (se [aA, ax, aa, aq, ao] bL).g7 ae af ag ah ai ay E
   clear bL
   cases fH : (blockOk ([Z] : List Row))
   · refine .r 2 <| .d <| .ct <| .s <| .g <| .r 2 <| RG.eqv (v := .bool true) (v' := .bool (false == false)) (by kernel_rfl) (by simp) <| .r 1 <| .ln ai <| .ln C <| .cl (c_laws_lyStore (⟨(⟨(((addP J W Z).1).idx).names, (((addP J W Z).1).idx).posts⟩ : Idx), ((addP J W Z).1).parts, ((addP J W Z).1).mem⟩ : Sto) (⟨(⟨(((addP J W Z).1).idx).names, (((addP J W Z).1).idx).posts⟩ : Idx), ((addP J W Z).1).parts, ((addP J W Z).1).mem⟩ : Sto) ae.ta af.ta ag.ta ah.ta av.ta aw.ta ab.ta ac.ta (w := cJ) (F := all)) ?_
     rintro hV hW ⟨rfl, bM⟩
     replace ⟨aj, ak, al, am, au, O, V, av, aw, ab, ac, C⟩ := (se [aA, ax, aa, aq, ao] bM).g12 aj ak al am au O V av aw ab ac C
     replace ⟨ae, af, ag, ah, ai, ay, E⟩ := (se [aA, ax, aa, aq, ao] bM).g7 ae af ag ah ai ay E
     clear bM
     exact .r 2 <| .d <| .rt Tryz.func3 Tryz.results3 (.bool ((⟨(⟨(((addP J W Z).1).idx).names, (((addP J W Z).1).idx).posts⟩ : Idx), ((addP J W Z).1).parts, ((addP J W Z).1).mem⟩ : Sto) == (⟨(⟨(((addP J W Z).1).idx).names, (((addP J W Z).1).idx).posts⟩ : Idx), ((addP J W Z).1).parts, ((addP J W Z).1).mem⟩ : Sto))) ⟨(congrArg Value.bool (by first | (have q1 : SD _ ∧ NmD _ ∧ RowSm _ := (by assumption); have q2 := law_not q1.1 (by assumption) (by assumption) (by assumption); simp_all; done) | (simp_all; done))), E⟩
   refine .r 2 <| .d <| .cf <| .sk <| .s <| .g <| .r 1 <| .ln O <| .r 1 <| .cl (c_impl_IndexAdd J.idx W aj ak au (by have q1 : SD _ ∧ NmD _ ∧ RowSm _ := (by assumption); exact q1.1.ix) (by have q1 : SD _ ∧ NmD _ ∧ RowSm _ := (by assumption); exact q1.1.nd) (by have q1 : SD _ ∧ NmD _ ∧ RowSm _ := (by assumption); exact q1.2.1) (w := cJ) (F := nin (fo F w.heap.size) [aA, ax, aa, aq, ao])) ?_
   rintro hX hY ⟨⟨hZ, rfl, ⟨_, rfl, ⟨dJ, ia, dK, dL, ic, dM, rfl, cB, cC⟩⟩⟩, bN⟩
   have bO := al5 ay.lt ai.lt C.lt V.lt O.lt
   have cK : Gb w.heap.size cJ.heap.size := E.size
   replace ⟨aj, ak, al, am, au, O, V, av, aw, ab, ac, C⟩ := (se [aA, ax, aa, aq, ao] bN).g12 aj ak al am au O V av aw ab ac C
   replace ⟨ae, af, ag, ah, ai, ay, E⟩ := (se [aA, ax, aa, aq, ao] bN).g7 ae af ag ah ai ay E
   clear bN
   replace cB := RepS.mixed' (M := [aA, ax, aa, aq, ao]) cB bO cK
   have fI := cB.max
   replace cC := RepS.mixed' (M := [aA, ax, aa, aq, ao]) cC bO cK
   have fJ := cC.max
   clear bO
   have ec := cB.len
   subst ec
   have ed := cC.len
   subst ed
   refine .r 3 ?_
   cases fK : (addI J.idx W).2.2
   · refine .r 1 <| .np 26 [.slice none 0 0, .slice none 0 0] fun aE ie aK bP ee ef => ?_
     have fL := nb_new aK O.lt
     have fM := nb_new aK V.lt
     have fN := nb_new aK C.lt
     have fO := nb_new aK ai.lt
     have fP := nb_new aK ay.lt
     have fQ := E.cn aK
     replace ⟨aj, ak, al, am, au, O, V, av, aw, ab, ac, C⟩ := (sn [aA, ax, aa, aq, ao] bP aK).g12 aj ak al am au O V av aw ab ac C
     replace ⟨ae, af, ag, ah, ai, ay, E⟩ := (sn [aA, ax, aa, aq, ao] bP aK).g7 ae af ag ah ai ay E
     clear bP ef aK
     refine .sc [.slice dJ ((((addI J.idx W).1).names).length) dK, .slice dL ((((addI J.idx W).1).posts).length) dM] ee fun ig bQ aG eg => ?_
     replace ⟨aj, ak, al, am, au, O, V, av, aw, ab, ac, C⟩ := (so [aE, aA, ax, aa, aq, ao] bQ).g12 aj ak al am au O V av aw ab ac C
     replace ⟨ae, af, ag, ah, ai, ay, E⟩ := (so [aE, aA, ax, aa, aq, ao] bQ).g7 ae af ag ah ai ay E
     clear bQ eg
     refine .r 2 <| .d <| .s <| .gd nil 9 fun ii bR => ?_
     replace ⟨aj, ak, al, am, au, O, V, av, aw, ab, ac, C⟩ := (se [aE, aA, ax, aa, aq, ao] bR).g12 aj ak al am au O V av aw ab ac C
     replace ⟨ae, af, ag, ah, ai, ay, aG, E⟩ := (se [aE, aA, ax, aa, aq, ao] bR).g8 ae af ag ah ai ay aG E
     clear bR
     refine .ln 0 O id <| .r [1] <| .ln 3 V id <| .go 2 <| .cl (fun cL aP => c_impl_StoreRows J ((addI J.idx W).2.1) (aj.ta.ext aP) (ak.ta.ext aP) (al.ta.ext aP) (am.ta.ext aP) (by have q1 : SD _ ∧ NmD _ ∧ RowSm _ := (by assumption); first | exact q1.1 | exact addP_sd q1.1 q1.2.1 (by assumption) | exact addP_sd (addP_sd q1.1 q1.2.1 (by assumption)) q1.2.1 (by assumption)) (w := cL) (F := all)) ?_
     intro cL aP
     replace ⟨aj, ak, al, am, au, O, V, av, aw, ab, ac, C⟩ := (se [aE, aA, ax, aa, aq, ao] aP).g12 aj ak al am au O V av aw ab ac C
     replace ⟨ae, af, ag, ah, ai, ay, aG, E⟩ := (se [aE, aA, ax, aa, aq, ao] aP).g8 ae af ag ah ai ay aG E
     rintro ij ik ⟨⟨il, im, rfl, ba⟩, bj⟩
     have cM := al6 aG.lt ay.lt ai.lt C.lt V.lt O.lt
     have eh : Gb w.heap.size cL.heap.size := E.size
     have hkeep_ := bj
     replace ⟨aj, ak, al, am, au, O, V, av, aw, ab, ac, C⟩ := (se [aE, aA, ax, aa, aq, ao] bj).g12 aj ak al am au O V av aw ab ac C
     replace ⟨ae, af, ag, ah, ai, ay, aG, E⟩ := (se [aE, aA, ax, aa, aq, ao] bj).g8 ae af ag ah ai ay aG E
     clear bj
     refine ⟨Ext.chg hkeep_, ?_⟩
     have ba := ba.fr cM eh
     replace ba := ba.base (G' := fo F w.heap.size) (fun _ _ h => .inr h)
     have fR := ba.max
     clear cM
     refine .go 4 <| .cl (fun cN bk => c_impl_BlockPut (rowsI J ((addI J.idx W).2.1)) Z (ba.ta.ext bk) (by have q1 : SD _ ∧ NmD _ ∧ RowSm _ := (by assumption); have q2 := rowsI_len q1.1; refine Nat.le_trans (q2 _) (by omega)) (w := cN) (F := all)) ?_
     intro cN bk
     replace ⟨aj, ak, al, am, au, O, V, av, aw, ab, ac, C⟩ := (se [aE, aA, ax, aa, aq, ao] bk).g12 aj ak al am au O V av aw ab ac C
     replace ⟨ae, af, ag, ah, ai, ay, aG, E⟩ := (se [aE, aA, ax, aa, aq, ao] bk).g8 ae af ag ah ai ay aG E
     rintro io ip ⟨⟨iq, rfl, ⟨ir, iu, rfl, bt⟩⟩, bm⟩
     have cO := al6 aG.lt ay.lt ai.lt C.lt V.lt O.lt
     have ei : Gb w.heap.size cN.heap.size := E.size
     have hkeep_ := bm
     replace ⟨aj, ak, al, am, au, O, V, av, aw, ab, ac, C⟩ := (se [aE, aA, ax, aa, aq, ao] bm).g12 aj ak al am au O V av aw ab ac C
     replace ⟨ae, af, ag, ah, ai, ay, E⟩ := (se [aE, aA, ax, aa, aq, ao] bm).g7 ae af ag ah ai ay E
     clear bm
     refine ⟨Ext.chg hkeep_, ?_⟩
     have bt := bt.fr cO ei
     replace bt := bt.base (G' := fo F w.heap.size) (fun _ _ h => .inr h)
     have fS := bt.max
     clear cO
     refine .r [5, 6] ?_
     cases fT : (putI (rowsI J ((addI J.idx W).2.1)) Z).2
     · refine .r [7, 8] <| .d fun eY bS => ?_
       replace ⟨aj, ak, al, am, au, O, V, av, aw, ab, ac, C⟩ := (se [aE, aA, ax, aa, aq, ao] bS).g12 aj ak al am au O V av aw ab ac C
       replace ⟨ae, af, ag, ah, ai, ay, E⟩ := (se [aE, aA, ax, aa, aq, ao] bS).g7 ae af ag ah ai ay E
       clear bS
       refine .r 1 <| .d <| .s <| .g <| .r 11 <| .d <| .s <| .g <| .r 2 <| RG.eqv (v := .bool true) (v' := .bool (false == false)) (by kernel_rfl) (by simp) <| .r 3 <| .ln ai <| .ln O <| .cl (c_laws_lyStore (⟨(⟨(((addP J W Z).1).idx).names, (((addP J W Z).1).idx).posts⟩ : Idx), ((addP J W Z).1).parts, ((addP J W Z).1).mem⟩ : Sto) J ae.ta af.ta ag.ta ah.ta aj.ta ak.ta al.ta am.ta (w := eY) (F := all)) ?_
       rintro iw iy ⟨rfl, bT⟩
       replace ⟨aj, ak, al, am, au, O, V, av, aw, ab, ac, C⟩ := (se [aE, aA, ax, aa, aq, ao] bT).g12 aj ak al am au O V av aw ab ac C
       replace ⟨ae, af, ag, ah, ai, ay, E⟩ := (se [aE, aA, ax, aa, aq, ao] bT).g7 ae af ag ah ai ay E
       clear bT
       exact .r 3 <| .d <| .rt Tryz.func3 Tryz.results3 (.bool ((⟨(⟨(((addP J W Z).1).idx).names, (((addP J W Z).1).idx).posts⟩ : Idx), ((addP J W Z).1).parts, ((addP J W Z).1).mem⟩ : Sto) == J)) ⟨(congrArg Value.bool (by first | (have q1 : SD _ ∧ NmD _ ∧ RowSm _ := (by assumption); have q2 := law_not q1.1 (by assumption) (by assumption) (by assumption); simp_all; done) | (simp_all; done))), E⟩
     refine .r [7, 8] <| .d fun eZ bU => ?_
     replace ⟨aj, ak, al, am, au, O, V, av, aw, ab, ac, C⟩ := (se [aE, aA, ax, aa, aq, ao] bU).g12 aj ak al am au O V av aw ab ac C
     replace ⟨ae, af, ag, ah, ai, ay, E⟩ := (se [aE, aA, ax, aa, aq, ao] bU).g7 ae af ag ah ai ay E
     clear bU
     refine .r 1 <| .d <| .s <| .g <| .r 11 <| .d <| .s <| .g <| .r 2 <| RG.eqv (v := .bool true) (v' := .bool (false == false)) (by kernel_rfl) (by simp) <| .r 3 <| .ln ai <| .ln O <| .cl (c_laws_lyStore (⟨(⟨(((addP J W Z).1).idx).names, (((addP J W Z).1).idx).posts⟩ : Idx), ((addP J W Z).1).parts, ((addP J W Z).1).mem⟩ : Sto) J ae.ta af.ta ag.ta ah.ta aj.ta ak.ta al.ta am.ta (w := eZ) (F := all)) ?_
     rintro iz iA ⟨rfl, bV⟩
     replace ⟨aj, ak, al, am, au, O, V, av, aw, ab, ac, C⟩ := (se [aE, aA, ax, aa, aq, ao] bV).g12 aj ak al am au O V av aw ab ac C
     replace ⟨ae, af, ag, ah, ai, ay, E⟩ := (se [aE, aA, ax, aa, aq, ao] bV).g7 ae af ag ah ai ay E
     clear bV
     exact .r 3 <| .d <| .rt Tryz.func3 Tryz.results3 (.bool ((⟨(⟨(((addP J W Z).1).idx).names, (((addP J W Z).1).idx).posts⟩ : Idx), ((addP J W Z).1).parts, ((addP J W Z).1).mem⟩ : Sto) == J)) ⟨(congrArg Value.bool (by first | (have q1 : SD _ ∧ NmD _ ∧ RowSm _ := (by assumption); have q2 := law_not q1.1 (by assumption) (by assumption) (by assumption); simp_all; done) | (simp_all; done))), E⟩
   refine .r 1 <| .np 26 [.slice none 0 0, .slice none 0 0] fun aF iB aL bW ej ek => ?_
   have fU := nb_new aL O.lt
   have fV := nb_new aL V.lt
   have fW := nb_new aL C.lt
   have fX := nb_new aL ai.lt
   have fY := nb_new aL ay.lt
   have fZ := E.cn aL
   replace ⟨aj, ak, al, am, au, O, V, av, aw, ab, ac, C⟩ := (sn [aA, ax, aa, aq, ao] bW aL).g12 aj ak al am au O V av aw ab ac C
   replace ⟨ae, af, ag, ah, ai, ay, E⟩ := (sn [aA, ax, aa, aq, ao] bW aL).g7 ae af ag ah ai ay E
   clear bW ek aL
   refine .sc [.slice dJ ((((addI J.idx W).1).names).length) dK, .slice dL ((((addI J.idx W).1).posts).length) dM] ej fun iC bX aH em => ?_
   replace ⟨aj, ak, al, am, au, O, V, av, aw, ab, ac, C⟩ := (so [aF, aA, ax, aa, aq, ao] bX).g12 aj ak al am au O V av aw ab ac C
   replace ⟨ae, af, ag, ah, ai, ay, E⟩ := (so [aF, aA, ax, aa, aq, ao] bX).g7 ae af ag ah ai ay E
   clear bX em
   refine .r 2 <| .d <| .s <| .gd nil 9 fun iD bY => ?_
   replace ⟨aj, ak, al, am, au, O, V, av, aw, ab, ac, C⟩ := (se [aF, aA, ax, aa, aq, ao] bY).g12 aj ak al am au O V av aw ab ac C
   replace ⟨ae, af, ag, ah, ai, ay, aH, E⟩ := (se [aF, aA, ax, aa, aq, ao] bY).g8 ae af ag ah ai ay aH E
   clear bY
   refine .ln 0 O id <| .r [1] <| .ln 3 V id <| .go 2 <| .cl (fun cP aQ => c_impl_StoreRows J ((addI J.idx W).2.1) (aj.ta.ext aQ) (ak.ta.ext aQ) (al.ta.ext aQ) (am.ta.ext aQ) (by have q1 : SD _ ∧ NmD _ ∧ RowSm _ := (by assumption); first | exact q1.1 | exact addP_sd q1.1 q1.2.1 (by assumption) | exact addP_sd (addP_sd q1.1 q1.2.1 (by assumption)) q1.2.1 (by assumption)) (w := cP) (F := all)) ?_
   intro cP aQ
   replace ⟨aj, ak, al, am, au, O, V, av, aw, ab, ac, C⟩ := (se [aF, aA, ax, aa, aq, ao] aQ).g12 aj ak al am au O V av aw ab ac C
   replace ⟨ae, af, ag, ah, ai, ay, aH, E⟩ := (se [aF, aA, ax, aa, aq, ao] aQ).g8 ae af ag ah ai ay aH E
   rintro iE iF ⟨⟨iG, iH, rfl, bc⟩, bn⟩
   have cQ := al6 aH.lt ay.lt ai.lt C.lt V.lt O.lt
   have en : Gb w.heap.size cP.heap.size := E.size
   have hkeep_ := bn
   replace ⟨aj, ak, al, am, au, O, V, av, aw, ab, ac, C⟩ := (se [aF, aA, ax, aa, aq, ao] bn).g12 aj ak al am au O V av aw ab ac C
   replace ⟨ae, af, ag, ah, ai, ay, aH, E⟩ := (se [aF, aA, ax, aa, aq, ao] bn).g8 ae af ag ah ai ay aH E
   clear bn
   refine ⟨Ext.chg hkeep_, ?_⟩
   have bc := bc.fr cQ en
   replace bc := bc.base (G' := fo F w.heap.size) (fun _ _ h => .inr h)
   have f0 := bc.max
   clear cQ
   refine .go 4 <| .cl (fun cR bo => c_impl_BlockPut (rowsI J ((addI J.idx W).2.1)) Z (bc.ta.ext bo) (by have q1 : SD _ ∧ NmD _ ∧ RowSm _ := (by assumption); have q2 := rowsI_len q1.1; refine Nat.le_trans (q2 _) (by omega)) (w := cR) (F := all)) ?_
   intro cR bo
   replace ⟨aj, ak, al, am, au, O, V, av, aw, ab, ac, C⟩ := (se [aF, aA, ax, aa, aq, ao] bo).g12 aj ak al am au O V av aw ab ac C
   replace ⟨ae, af, ag, ah, ai, ay, aH, E⟩ := (se [aF, aA, ax, aa, aq, ao] bo).g8 ae af ag ah ai ay aH E
   rintro iI iJ ⟨⟨iK, rfl, ⟨iL, iM, rfl, bu⟩⟩, bq⟩
   have cS := al6 aH.lt ay.lt ai.lt C.lt V.lt O.lt
   have eo : Gb w.heap.size cR.heap.size := E.size
   have hkeep_ := bq
   replace ⟨aj, ak, al, am, au, O, V, av, aw, ab, ac, C⟩ := (se [aF, aA, ax, aa, aq, ao] bq).g12 aj ak al am au O V av aw ab ac C
   replace ⟨ae, af, ag, ah, ai, E⟩ := (se [aF, aA, ax, aa, aq, ao] bq).g6 ae af ag ah ai E
   clear bq
   refine ⟨Ext.chg hkeep_, ?_⟩
   have bu := bu.fr cS eo
   replace bu := bu.base (G' := fo F w.heap.size) (fun _ _ h => .inr h)
   have f3 := bu.max
   clear cS
   refine .r [5, 6] ?_
   cases f4 : (putI (rowsI J ((addI J.idx W).2.1)) Z).2
   · refine .r [7, 8] <| .d fun e0 bZ => ?_
     replace ⟨aj, ak, al, am, au, O, V, av, aw, ab, ac, C⟩ := (se [aF, aA, ax, aa, aq, ao] bZ).g12 aj ak al am au O V av aw ab ac C
     replace ⟨ae, af, ag, ah, ai, E⟩ := (se [aF, aA, ax, aa, aq, ao] bZ).g6 ae af ag ah ai E
     clear bZ
     refine .r 1 <| .d <| .s <| .g <| .r 11 <| .d <| .s <| .g <| .r 2 <| RG.eqv (v := .bool true) (v' := .bool (false == false)) (by kernel_rfl) (by simp) <| .r 3 <| .ln ai <| .ln O <| .cl (c_laws_lyStore (⟨(⟨(((addP J W Z).1).idx).names, (((addP J W Z).1).idx).posts⟩ : Idx), ((addP J W Z).1).parts, ((addP J W Z).1).mem⟩ : Sto) J ae.ta af.ta ag.ta ah.ta aj.ta ak.ta al.ta am.ta (w := e0) (F := all)) ?_
     rintro iN iO ⟨rfl, b0⟩
     replace ⟨aj, ak, al, am, au, O, V, av, aw, ab, ac, C⟩ := (se [aF, aA, ax, aa, aq, ao] b0).g12 aj ak al am au O V av aw ab ac C
     replace ⟨ae, af, ag, ah, ai, E⟩ := (se [aF, aA, ax, aa, aq, ao] b0).g6 ae af ag ah ai E
     clear b0
     exact .r 3 <| .d <| .rt Tryz.func3 Tryz.results3 (.bool ((⟨(⟨(((addP J W Z).1).idx).names, (((addP J W Z).1).idx).posts⟩ : Idx), ((addP J W Z).1).parts, ((addP J W Z).1).mem⟩ : Sto) == J)) ⟨(congrArg Value.bool (by first | (have q1 : SD _ ∧ NmD _ ∧ RowSm _ := (by assumption); have q2 := law_not q1.1 (by assumption) (by assumption) (by assumption); simp_all; done) | (simp_all; done))), E⟩
   refine .r [7, 8] <| .d fun e7 b6 => ?_
   replace ⟨aj, ak, al, am, au, O, V, av, aw, ab, ac, C⟩ := (se [aF, aA, ax, aa, aq, ao] b6).g12 aj ak al am au O V av aw ab ac C
   replace ⟨ae, af, ag, ah, ai, E⟩ := (se [aF, aA, ax, aa, aq, ao] b6).g6 ae af ag ah ai E
   clear b6
   refine .r 1 <| .d <| .s <| .g <| .r 6 <| .lb O <| .r 4 <| .d <| .s <| .g <| .r 2 <| RG.eqv (v := .bool (!(decide ((J.mem.length : Int) < 20)))) (v' := .bool (false == (decide ((J.mem.length : Int) < 20)))) (by kernel_rfl) (by simp) ?_
   cases f5 : (decide ((J.mem.length : Int) < 20))
   · refine .r 3 <| .ln ai <| .ln O <| .cl (c_laws_lyStore (⟨(⟨(((addP J W Z).1).idx).names, (((addP J W Z).1).idx).posts⟩ : Idx), ((addP J W Z).1).parts, ((addP J W Z).1).mem⟩ : Sto) J ae.ta af.ta ag.ta ah.ta aj.ta ak.ta al.ta am.ta (w := e7) (F := all)) ?_
     rintro iP iQ ⟨rfl, b7⟩
     replace ⟨aj, ak, al, am, au, O, V, av, aw, ab, ac, C⟩ := (se [aF, aA, ax, aa, aq, ao] b7).g12 aj ak al am au O V av aw ab ac C
     replace ⟨ae, af, ag, ah, E⟩ := (se [aF, aA, ax, aa, aq, ao] b7).g5 ae af ag ah E
     clear b7
     exact .r 3 <| .d <| .rt Tryz.func3 Tryz.results3 (.bool ((⟨(⟨(((addP J W Z).1).idx).names, (((addP J W Z).1).idx).posts⟩ : Idx), ((addP J W Z).1).parts, ((addP J W Z).1).mem⟩ : Sto) == J)) ⟨(congrArg Value.bool (by first | (have q1 : SD _ ∧ NmD _ ∧ RowSm _ := (by assumption); have q2 := law_not q1.1 (by assumption) (by assumption) (by assumption); simp_all; done) | (simp_all; done))), E⟩
   exact .r 9 <| .d <| .rt Tryz.func3 Tryz.results3 (.bool false) ⟨(congrArg Value.bool (by have q1 : SD _ ∧ NmD _ ∧ RowSm _ := (by assumption); first | (exfalso; have q2 := law_not q1.1 (by assumption) (by assumption) (by assumption); simp_all; done) | (exfalso; simp_all; done))), E⟩
 refine .r 1 <| .np 30 [.slice none 0 0, .slice none 0 0, .slice none 0 0, .slice none 0 0] fun aB iR aR b8 ep es => ?_
 have f6 := nb_new aR O.lt
 have f7 := nb_new aR V.lt
 have f8 := nb_new aR C.lt
 have f9 := E.cn aR
 replace ⟨aj, ak, al, am, au, O, V, av, aw, ab, ac, C⟩ := (sn [aa, aq, ao] b8 aR).g12 aj ak al am au O V av aw ab ac C
 replace ⟨ae, af, ag, ah, E⟩ := (sn [aa, aq, ao] b8 aR).g5 ae af ag ah E
 clear b8 es aR
 refine .sc [.slice dy (((((addP J W Z).1).idx).names).length) dz, .slice dA (((((addP J W Z).1).idx).posts).length) dB, .slice dC ((((addP J W Z).1).parts).length) dD, .slice dE ((((addP J W Z).1).mem).length) dF] ep fun e8 b9 ar et => ?_
 replace ⟨aj, ak, al, am, au, O, V, av, aw, ab, ac, C⟩ := (so [aB, aa, aq, ao] b9).g12 aj ak al am au O V av aw ab ac C
 replace ⟨ae, af, ag, ah, E⟩ := (so [aB, aa, aq, ao] b9).g5 ae af ag ah E
 clear b9 et
 refine .r 1 <| .d <| .s <| .s <| .g <| .r 2 <| RG.eqv (v := .bool false) (v' := .bool (true != true)) (by kernel_rfl) (by simp) <| .r 1 <| .ln ar <| .ln C <| .cl (c_laws_lyStore (⟨(⟨(((addP J W Z).1).idx).names, (((addP J W Z).1).idx).posts⟩ : Idx), ((addP J W Z).1).parts, ((addP J W Z).1).mem⟩ : Sto) (⟨(⟨(((addP J W Z).1).idx).names, (((addP J W Z).1).idx).posts⟩ : Idx), ((addP J W Z).1).parts, ((addP J W Z).1).mem⟩ : Sto) ae.ta af.ta ag.ta ah.ta av.ta aw.ta ab.ta ac.ta (w := e8) (F := all)) ?_
 rintro iS dN ⟨rfl, cd⟩
 replace ⟨aj, ak, al, am, au, O, V, av, aw, ab, ac, C⟩ := (se [aB, aa, aq, ao] cd).g12 aj ak al am au O V av aw ab ac C
 replace ⟨ae, af, ag, ah, ar, E⟩ := (se [aB, aa, aq, ao] cd).g6 ae af ag ah ar E
 clear cd
 cases ga : ((⟨(⟨(((addP J W Z).1).idx).names, (((addP J W Z).1).idx).posts⟩ : Idx), ((addP J W Z).1).parts, ((addP J W Z).1).mem⟩ : Sto) == (⟨(⟨(((addP J W Z).1).idx).names, (((addP J W Z).1).idx).posts⟩ : Idx), ((addP J W Z).1).parts, ((addP J W Z).1).mem⟩ : Sto))
 · refine .r 18 <| .d <| .ct <| .s <| .g <| .r 2 <| RG.eqv (v := .bool true) (v' := .bool (true == true)) (by kernel_rfl) (by simp) <| .r 1 <| .ln ar <| .ln C <| .cl (c_laws_lyStore (⟨(⟨(((addP J W Z).1).idx).names, (((addP J W Z).1).idx).posts⟩ : Idx), ((addP J W Z).1).parts, ((addP J W Z).1).mem⟩ : Sto) (⟨(⟨(((addP J W Z).1).idx).names, (((addP J W Z).1).idx).posts⟩ : Idx), ((addP J W Z).1).parts, ((addP J W Z).1).mem⟩ : Sto) ae.ta af.ta ag.ta ah.ta av.ta aw.ta ab.ta ac.ta (w := dN) (F := all)) ?_
   rintro iT iU ⟨rfl, ce⟩
   replace ⟨aj, ak, al, am, au, O, V, av, aw, ab, ac, C⟩ := (se [aB, aa, aq, ao] ce).g12 aj ak al am au O V av aw ab ac C
   replace ⟨ae, af, ag, ah, ar, E⟩ := (se [aB, aa, aq, ao] ce).g6 ae af ag ah ar E
   clear ce
   exact .r 2 <| .d <| .rt Tryz.func3 Tryz.results3 (.bool ((⟨(⟨(((addP J W Z).1).idx).names, (((addP J W Z).1).idx).posts⟩ : Idx), ((addP J W Z).1).parts, ((addP J W Z).1).mem⟩ : Sto) == (⟨(⟨(((addP J W Z).1).idx).names, (((addP J W Z).1).idx).posts⟩ : Idx), ((addP J W Z).1).parts, ((addP J W Z).1).mem⟩ : Sto))) ⟨(congrArg Value.bool (by first | (have q1 : SD _ ∧ NmD _ ∧ RowSm _ := (by assumption); have q2 := law_not q1.1 (by assumption) (by assumption) (by assumption); simp_all; done) | (simp_all; done))), E⟩
 refine .r 3 <| .ln O <| .cl (c_spec_StoreOk J aj.ta ak.ta al.ta am.ta (by have q1 : SD _ ∧ NmD _ ∧ RowSm _ := (by assumption); first | exact q1.1 | exact addP_sd q1.1 q1.2.1 (by assumption) | exact addP_sd (addP_sd q1.1 q1.2.1 (by assumption)) q1.2.1 (by assumption)) (w := dN) (F := all)) ?_
 rintro iV dO ⟨rfl, cg⟩
 replace ⟨aj, ak, al, am, au, O, V, av, aw, ab, ac, C⟩ := (se [aB, aa, aq, ao] cg).g12 aj ak al am au O V av aw ab ac C
 replace ⟨ae, af, ag, ah, ar, E⟩ := (se [aB, aa, aq, ao] cg).g6 ae af ag ah ar E
 clear cg
 cases gb : (storeOk J)
 · refine .r 13 <| .d <| .ct <| .s <| .g <| .r 2 <| RG.eqv (v := .bool true) (v' := .bool (true == true)) (by kernel_rfl) (by simp) <| .r 1 <| .ln ar <| .ln C <| .cl (c_laws_lyStore (⟨(⟨(((addP J W Z).1).idx).names, (((addP J W Z).1).idx).posts⟩ : Idx), ((addP J W Z).1).parts, ((addP J W Z).1).mem⟩ : Sto) (⟨(⟨(((addP J W Z).1).idx).names, (((addP J W Z).1).idx).posts⟩ : Idx), ((addP J W Z).1).parts, ((addP J W Z).1).mem⟩ : Sto) ae.ta af.ta ag.ta ah.ta av.ta aw.ta ab.ta ac.ta (w := dO) (F := all)) ?_
   rintro iW iX ⟨rfl, ci⟩
   replace ⟨aj, ak, al, am, au, O, V, av, aw, ab, ac, C⟩ := (se [aB, aa, aq, ao] ci).g12 aj ak al am au O V av aw ab ac C
   replace ⟨ae, af, ag, ah, ar, E⟩ := (se [aB, aa, aq, ao] ci).g6 ae af ag ah ar E
   clear ci
   exact .r 2 <| .d <| .rt Tryz.func3 Tryz.results3 (.bool ((⟨(⟨(((addP J W Z).1).idx).names, (((addP J W Z).1).idx).posts⟩ : Idx), ((addP J W Z).1).parts, ((addP J W Z).1).mem⟩ : Sto) == (⟨(⟨(((addP J W Z).1).idx).names, (((addP J W Z).1).idx).posts⟩ : Idx), ((addP J W Z).1).parts, ((addP J W Z).1).mem⟩ : Sto))) ⟨(congrArg Value.bool (by first | (have q1 : SD _ ∧ NmD _ ∧ RowSm _ := (by assumption); have q2 := law_not q1.1 (by assumption) (by assumption) (by assumption); simp_all; done) | (simp_all; done))), E⟩
 refine .r 4 <| .cl (c_spec_NameOk W au.ta (w := dO) (F := all)) ?_
 rintro iY e9 ⟨rfl, cj⟩
 replace ⟨aj, ak, al, am, au, O, V, av, aw, ab, ac, C⟩ := (se [aB, aa, aq, ao] cj).g12 aj ak al am au O V av aw ab ac C
 replace ⟨ae, af, ag, ah, ar, E⟩ := (se [aB, aa, aq, ao] cj).g6 ae af ag ah ar E
 clear cj
 cases gf : (nameOk W)
 · refine .r 8 <| .d <| .ct <| .s <| .g <| .r 2 <| RG.eqv (v := .bool true) (v' := .bool (true == true)) (by kernel_rfl) (by simp) <| .r 1 <| .ln ar <| .ln C <| .cl (c_laws_lyStore (⟨(⟨(((addP J W Z).1).idx).names, (((addP J W Z).1).idx).posts⟩ : Idx), ((addP J W Z).1).parts, ((addP J W Z).1).mem⟩ : Sto) (⟨(⟨(((addP J W Z).1).idx).names, (((addP J W Z).1).idx).posts⟩ : Idx), ((addP J W Z).1).parts, ((addP J W Z).1).mem⟩ : Sto) ae.ta af.ta ag.ta ah.ta av.ta aw.ta ab.ta ac.ta (w := e9) (F := all)) ?_
   rintro iZ ja ⟨rfl, ck⟩
   replace ⟨aj, ak, al, am, au, O, V, av, aw, ab, ac, C⟩ := (se [aB, aa, aq, ao] ck).g12 aj ak al am au O V av aw ab ac C
   replace ⟨ae, af, ag, ah, ar, E⟩ := (se [aB, aa, aq, ao] ck).g6 ae af ag ah ar E
   clear ck
   exact .r 2 <| .d <| .rt Tryz.func3 Tryz.results3 (.bool ((⟨(⟨(((addP J W Z).1).idx).names, (((addP J W Z).1).idx).posts⟩ : Idx), ((addP J W Z).1).parts, ((addP J W Z).1).mem⟩ : Sto) == (⟨(⟨(((addP J W Z).1).idx).names, (((addP J W Z).1).idx).posts⟩ : Idx), ((addP J W Z).1).parts, ((addP J W Z).1).mem⟩ : Sto))) ⟨(congrArg Value.bool (by first | (have q1 : SD _ ∧ NmD _ ∧ RowSm _ := (by assumption); have q2 := law_not q1.1 (by assumption) (by assumption) (by assumption); simp_all; done) | (simp_all; done))), E⟩
 refine .r 3 <| .ln V <| .ns 1 33 [vI Z.t, vI Z.v] fun aD dP cm co ew ex => ?_
 replace ⟨aj, ak, al, am, au, O, V, av, aw, ab, ac, C⟩ := (sn [aB, aa, aq, ao] co cm).g12 aj ak al am au O V av aw ab ac C
 replace ⟨ae, af, ag, ah, ar, E⟩ := (sn [aB, aa, aq, ao] co cm).g6 ae af ag ah ar E
 clear co ex cm
 have az : Own (α := Row) dP aD 33 (nin (fo F w.heap.size) [aD, aB, aa, aq, ao]) 1 1 [Z] := Own.lit ew rfl (by decide) ⟨rfl, rfl⟩
 refine .cl (c_impl_BlockOk ([Z] : List Row) (az.rep) (w := dP) (F := all)) ?_
 rintro jb cT ⟨rfl, cp⟩
 replace ⟨aj, ak, al, am, au, O, V, av, aw, ab, ac, C⟩ := (se [aD, aB, aa, aq, ao] cp).g12 aj ak al am au O V av aw ab ac C
 replace ⟨ae, af, ag, ah, ar, az, E⟩ := (se [aD, aB, aa, aq, ao] cp).g7 ae af ag ah ar az E
 clear cp
 cases gg : (blockOk ([Z] : List Row))
 · refine .r 2 <| .d <| .ct <| .s <| .g <| .r 2 <| RG.eqv (v := .bool true) (v' := .bool (true == true)) (by kernel_rfl) (by simp) <| .r 1 <| .ln ar <| .ln C <| .cl (c_laws_lyStore (⟨(⟨(((addP J W Z).1).idx).names, (((addP J W Z).1).idx).posts⟩ : Idx), ((addP J W Z).1).parts, ((addP J W Z).1).mem⟩ : Sto) (⟨(⟨(((addP J W Z).1).idx).names, (((addP J W Z).1).idx).posts⟩ : Idx), ((addP J W Z).1).parts, ((addP J W Z).1).mem⟩ : Sto) ae.ta af.ta ag.ta ah.ta av.ta aw.ta ab.ta ac.ta (w := cT) (F := all)) ?_
   rintro jc jd ⟨rfl, cU⟩
   replace ⟨aj, ak, al, am, au, O, V, C, ar, az, E⟩ := (se [aD, aB, aa, aq, ao] cU).g11 aj ak al am au O V C ar az E
   clear cU
   exact .r 2 <| .d <| .rt Tryz.func3 Tryz.results3 (.bool ((⟨(⟨(((addP J W Z).1).idx).names, (((addP J W Z).1).idx).posts⟩ : Idx), ((addP J W Z).1).parts, ((addP J W Z).1).mem⟩ : Sto) == (⟨(⟨(((addP J W Z).1).idx).names, (((addP J W Z).1).idx).posts⟩ : Idx), ((addP J W Z).1).parts, ((addP J W Z).1).mem⟩ : Sto))) ⟨(congrArg Value.bool (by first | (have q1 : SD _ ∧ NmD _ ∧ RowSm _ := (by assumption); have q2 := law_not q1.1 (by assumption) (by assumption) (by assumption); simp_all; done) | (simp_all; done))), E⟩
 refine .r 2 <| .d <| .cf <| .sk <| .s <| .g <| .r 1 <| .ln O <| .r 1 <| .cl (c_impl_IndexAdd J.idx W aj ak au (by have q1 : SD _ ∧ NmD _ ∧ RowSm _ := (by assumption); exact q1.1.ix) (by have q1 : SD _ ∧ NmD _ ∧ RowSm _ := (by assumption); exact q1.1.nd) (by have q1 : SD _ ∧ NmD _ ∧ RowSm _ := (by assumption); exact q1.2.1) (w := cT) (F := nin (fo F w.heap.size) [aD, aB, aa, aq, ao])) ?_
 rintro je jf ⟨⟨jg, rfl, ⟨_, rfl, ⟨dQ, jh, dR, dS, ji, dT, rfl, cD, cE⟩⟩⟩, cV⟩
 have cq := al5 az.lt ar.lt C.lt V.lt O.lt
 have cW : Gb w.heap.size cT.heap.size := E.size
 replace ⟨aj, ak, al, am, O, V, C, ar, az, E⟩ := (se [aD, aB, aa, aq, ao] cV).g10 aj ak al am O V C ar az E
 clear cV
 replace cD := RepS.mixed' (M := [aD, aB, aa, aq, ao]) cD cq cW
 have gh := cD.max
 replace cE := RepS.mixed' (M := [aD, aB, aa, aq, ao]) cE cq cW
 have gi := cE.max
 clear cq
 have ey := cD.len
 subst ey
 have ez := cE.len
 subst ez
 refine .r 3 ?_
 cases gj : (addI J.idx W).2.2
 · refine .r 1 <| .np 26 [.slice none 0 0, .slice none 0 0] fun aU jj aM cX eA eB => ?_
   have gk := nb_new aM O.lt
   have gl := nb_new aM V.lt
   have gm := nb_new aM C.lt
   have gn := nb_new aM ar.lt
   have gp := nb_new aM az.lt
   have gq := E.cn aM
   replace ⟨aj, ak, al, am, O, V, C, ar, az, E⟩ := (sn [aD, aB, aa, aq, ao] cX aM).g10 aj ak al am O V C ar az E
   clear cX eB aM
   refine .sc [.slice dQ ((((addI J.idx W).1).names).length) dR, .slice dS ((((addI J.idx W).1).posts).length) dT] eA fun jk cY aI eC => ?_
   replace ⟨aj, ak, al, am, O, V, C, ar, az, E⟩ := (so [aU, aD, aB, aa, aq, ao] cY).g10 aj ak al am O V C ar az E
   clear cY eC
   refine .r 2 <| .d <| .s <| .gd nil 9 fun jl cZ => ?_
   replace ⟨aj, ak, al, am, O, V, C, ar, az, aI, E⟩ := (se [aU, aD, aB, aa, aq, ao] cZ).g11 aj ak al am O V C ar az aI E
   clear cZ
   refine .ln 0 O id <| .r [1] <| .ln 3 V id <| .go 2 <| .cl (fun c7 aS => c_impl_StoreRows J ((addI J.idx W).2.1) (aj.ta.ext aS) (ak.ta.ext aS) (al.ta.ext aS) (am.ta.ext aS) (by have q1 : SD _ ∧ NmD _ ∧ RowSm _ := (by assumption); first | exact q1.1 | exact addP_sd q1.1 q1.2.1 (by assumption) | exact addP_sd (addP_sd q1.1 q1.2.1 (by assumption)) q1.2.1 (by assumption)) (w := c7) (F := all)) ?_
   intro c7 aS
   replace ⟨aj, ak, al, am, O, V, C, ar, az, aI, E⟩ := (se [aU, aD, aB, aa, aq, ao] aS).g11 aj ak al am O V C ar az aI E
   rintro jm jn ⟨⟨jo, jp, rfl, bd⟩, cr⟩
   have c8 := al6 aI.lt az.lt ar.lt C.lt V.lt O.lt
   have eD : Gb w.heap.size c7.heap.size := E.size
   have hkeep_ := cr
   replace ⟨aj, ak, al, am, O, V, C, ar, az, aI, E⟩ := (se [aU, aD, aB, aa, aq, ao] cr).g11 aj ak al am O V C ar az aI E
   clear cr
   refine ⟨Ext.chg hkeep_, ?_⟩
   have bd := bd.fr c8 eD
   replace bd := bd.base (G' := fo F w.heap.size) (fun _ _ h => .inr h)
   have gr := bd.max
   clear c8
   refine .go 4 <| .cl (fun c9 cu => c_impl_BlockPut (rowsI J ((addI J.idx W).2.1)) Z (bd.ta.ext cu) (by have q1 : SD _ ∧ NmD _ ∧ RowSm _ := (by assumption); have q2 := rowsI_len q1.1; refine Nat.le_trans (q2 _) (by omega)) (w := c9) (F := all)) ?_
   intro c9 cu
   replace ⟨aj, ak, al, am, O, V, C, ar, az, aI, E⟩ := (se [aU, aD, aB, aa, aq, ao] cu).g11 aj ak al am O V C ar az aI E
   rintro jq jr ⟨⟨js, rfl, ⟨jt, ju, rfl, bv⟩⟩, cv⟩
   have da := al6 aI.lt az.lt ar.lt C.lt V.lt O.lt
   have eE : Gb w.heap.size c9.heap.size := E.size
   have hkeep_ := cv
   replace ⟨aj, ak, al, am, O, V, C, ar, az, E⟩ := (se [aU, aD, aB, aa, aq, ao] cv).g10 aj ak al am O V C ar az E
   clear cv
   refine ⟨Ext.chg hkeep_, ?_⟩
   have bv := bv.fr da eE
   replace bv := bv.base (G' := fo F w.heap.size) (fun _ _ h => .inr h)
   have gs := bv.max
   clear da
   refine .r [5, 6] ?_
   cases gt : (putI (rowsI J ((addI J.idx W).2.1)) Z).2
   · refine .r [7, 8] <| .d fun jv db => ?_
     replace ⟨aj, ak, al, am, O, V, C, ar, az, E⟩ := (se [aU, aD, aB, aa, aq, ao] db).g10 aj ak al am O V C ar az E
     clear db
     exact .r 1 <| .d <| .s <| .g <| .r 11 <| .d <| .s <| .g <| .r 2 <| RG.eqv (v := .bool false) (v' := .bool (true == false)) (by kernel_rfl) (by simp) <| .r 9 <| .d <| .rt Tryz.func3 Tryz.results3 (.bool false) ⟨(congrArg Value.bool (by have q1 : SD _ ∧ NmD _ ∧ RowSm _ := (by assumption); first | (exfalso; have q2 := law_not q1.1 (by assumption) (by assumption) (by assumption); simp_all; done) | (exfalso; simp_all; done))), E⟩
   refine .r [7, 8] <| .d fun jw dd => ?_
   replace ⟨aj, ak, al, am, O, V, C, ar, az, E⟩ := (se [aU, aD, aB, aa, aq, ao] dd).g10 aj ak al am O V C ar az E
   clear dd
   exact .r 1 <| .d <| .s <| .g <| .r 11 <| .d <| .s <| .g <| .r 2 <| RG.eqv (v := .bool false) (v' := .bool (true == false)) (by kernel_rfl) (by simp) <| .r 9 <| .d <| .rt Tryz.func3 Tryz.results3 (.bool false) ⟨(congrArg Value.bool (by have q1 : SD _ ∧ NmD _ ∧ RowSm _ := (by assumption); first | (exfalso; have q2 := law_not q1.1 (by assumption) (by assumption) (by assumption); simp_all; done) | (exfalso; simp_all; done))), E⟩
 refine .r 1 <| .np 26 [.slice none 0 0, .slice none 0 0] fun bw jx aN de eF eG => ?_
 have gu := nb_new aN O.lt
 have gv := nb_new aN V.lt
 have gw := nb_new aN C.lt
 have gx := nb_new aN ar.lt
 have gy := nb_new aN az.lt
 have gz := E.cn aN
 replace ⟨aj, ak, al, am, O, V, C, ar, az, E⟩ := (sn [aD, aB, aa, aq, ao] de aN).g10 aj ak al am O V C ar az E
 clear de eG aN
 refine .sc [.slice dQ ((((addI J.idx W).1).names).length) dR, .slice dS ((((addI J.idx W).1).posts).length) dT] eF fun jy df aJ eH => ?_
 replace ⟨aj, ak, al, am, O, V, C, ar, az, E⟩ := (so [bw, aD, aB, aa, aq, ao] df).g10 aj ak al am O V C ar az E
 clear df eH
 refine .r 2 <| .d <| .s <| .gd nil 9 fun jz dg => ?_
 replace ⟨aj, ak, al, am, O, V, C, ar, az, aJ, E⟩ := (se [bw, aD, aB, aa, aq, ao] dg).g11 aj ak al am O V C ar az aJ E
 clear dg
 refine .ln 0 O id <| .r [1] <| .ln 3 V id <| .go 2 <| .cl (fun dh aT => c_impl_StoreRows J ((addI J.idx W).2.1) (aj.ta.ext aT) (ak.ta.ext aT) (al.ta.ext aT) (am.ta.ext aT) (by have q1 : SD _ ∧ NmD _ ∧ RowSm _ := (by assumption); first | exact q1.1 | exact addP_sd q1.1 q1.2.1 (by assumption) | exact addP_sd (addP_sd q1.1 q1.2.1 (by assumption)) q1.2.1 (by assumption)) (w := dh) (F := all)) ?_
 intro dh aT
 replace ⟨O, V, C, ar, az, aJ, E⟩ := (se [bw, aD, aB, aa, aq, ao] aT).g7 O V C ar az aJ E
 rintro jA jB ⟨⟨jC, jD, rfl, bg⟩, cw⟩
 have di := al6 aJ.lt az.lt ar.lt C.lt V.lt O.lt
 have eI : Gb w.heap.size dh.heap.size := E.size
 have hkeep_ := cw
 replace ⟨O, V, C, ar, az, aJ, E⟩ := (se [bw, aD, aB, aa, aq, ao] cw).g7 O V C ar az aJ E
 clear cw
 refine ⟨Ext.chg hkeep_, ?_⟩
 have bg := bg.fr di eI
 replace bg := bg.base (G' := fo F w.heap.size) (fun _ _ h => .inr h)
 have gA := bg.max
 clear di
 refine .go 4 <| .cl (fun dj cx => c_impl_BlockPut (rowsI J ((addI J.idx W).2.1)) Z (bg.ta.ext cx) (by have q1 : SD _ ∧ NmD _ ∧ RowSm _ := (by assumption); have q2 := rowsI_len q1.1; refine Nat.le_trans (q2 _) (by omega)) (w := dj) (F := all)) ?_
 intro dj cx
 replace ⟨O, V, C, ar, az, aJ, E⟩ := (se [bw, aD, aB, aa, aq, ao] cx).g7 O V C ar az aJ E
 rintro jE jF ⟨⟨jG, rfl, ⟨jH, jI, rfl, bz⟩⟩, cy⟩
 have dk := al6 aJ.lt az.lt ar.lt C.lt V.lt O.lt
 have eJ : Gb w.heap.size dj.heap.size := E.size
 have hkeep_ := cy
 replace ⟨O, E⟩ := (se [] cy).g2 O E
 clear cy
 refine ⟨Ext.chg hkeep_, ?_⟩
 have bz := bz.fr dk eJ
 replace bz := bz.base (G' := fo F w.heap.size) (fun _ _ h => .inr h)
 have gC := bz.max
 clear dk
 refine .r [5, 6] ?_
 cases gD : (putI (rowsI J ((addI J.idx W).2.1)) Z).2
 · refine .r [7, 8] <| .d fun jJ dm => ?_
   replace ⟨O, E⟩ := (se [] dm).g2 O E
   clear dm
   exact .r 1 <| .d <| .s <| .g <| .r 11 <| .d <| .s <| .g <| .r 2 <| RG.eqv (v := .bool false) (v' := .bool (true == false)) (by kernel_rfl) (by simp) <| .r 9 <| .d <| .rt Tryz.func3 Tryz.results3 (.bool false) ⟨(congrArg Value.bool (by have q1 : SD _ ∧ NmD _ ∧ RowSm _ := (by assumption); first | (exfalso; have q2 := law_not q1.1 (by assumption) (by assumption) (by assumption); simp_all; done) | (exfalso; simp_all; done))), E⟩
 refine .r [7, 8] <| .d fun jK dp => ?_
 replace ⟨O, E⟩ := (se [] dp).g2 O E
 clear dp
 refine .r 1 <| .d <| .s <| .g <| .r 6 <| .lb O <| .r 4 <| .d <| .s <| .g <| .r 2 <| RG.eqv (v := .bool (decide ((J.mem.length : Int) < 20))) (v' := .bool (true == (decide ((J.mem.length : Int) < 20)))) (by kernel_rfl) (by simp) ?_
 cases gE : (decide ((J.mem.length : Int) < 20))
 · exact .r 9 <| .d <| .rt Tryz.func3 Tryz.results3 (.bool false) ⟨(congrArg Value.bool (by have q1 : SD _ ∧ NmD _ ∧ RowSm _ := (by assumption); first | (exfalso; have q2 := law_not q1.1 (by assumption) (by assumption) (by assumption); simp_all; done) | (exfalso; simp_all; done))), E⟩
 exact .r 9 <| .d <| .rt Tryz.func3 Tryz.results3 (.bool true) ⟨(congrArg Value.bool (by rfl)), E⟩
end Go.Proofs.YtfnpaglcnmcnbaaGreat
