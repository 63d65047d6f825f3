/- walks; squeezed -/
import Derived.Test.YtfnpaglcnmcnbaaGreatFnAddRowszW24
set_option linter.unusedVariables false
set_option linter.unusedSimpArgs false
namespace Go.Proofs.YtfnpaglcnmcnbaaGreat
set_option maxRecDepth 100000
set_option maxHeartbeats 4000000
theorem c_laws_FnAddRows (code : List UInt8) {w : World} {F : Nat → Prop} {a1 : Option Addr} {n1 c1 : Nat} (h1 : RepS w F a1 n1 c1 code)  : Calls Tryz.prog 4 [.slice a1 n1 c1].toArray w (rets fun rv w' => rv = .bool (true) ∧ Ext w w') := by
 refine goT Tryz.func4 ?_
 obtain ⟨rfl, fm, h1⟩ := h1.tp
 refine .s <| .g <| .r 1 <| .d <| .s <| .s <| .g <| .r 2 <| .bp ((code.length : Int) > 1048576) (fun dO => .d <| .ct <| .s <| .g <| .r 1 <| .d <| .rt Tryz.func4 Tryz.results4 (.bool true) ⟨(congrArg Value.bool (by rfl)), (Chg.refl _ _)⟩) fun dO => .d <| .cf <| .sk <| .s <| .g <| .r 1 <| .cl (c_spec_DrawStoreAdd code h1 (w := w) (F := nin (fo F w.heap.size) [])) ?_
 rintro gP gQ ⟨⟨C, J, O, ⟨gR, gS, gT, rfl, ⟨_, rfl, ⟨ea, gU, eb, ec, gV, ed, ee, gW, ef, eg, gX, eh, rfl, al, am, ao, aq⟩⟩, ⟨gY, gZ, rfl, av⟩, ⟨_, rfl, rfl⟩⟩, fp⟩, cz⟩
 have aS : ∀ q_ ∈ ([] : List Nat), q_ < w.heap.size := all_nil
 have bd : Gb w.heap.size w.heap.size := (Nat.le_refl _)
 have E := cz
 clear cz
 replace al := RepS.mixed' (M := []) al aS bd
 have fq := al.max
 replace am := RepS.mixed' (M := []) am aS bd
 have ft := am.max
 replace ao := RepS.mixed' (M := []) ao aS bd
 have fu := ao.max
 replace aq := RepS.mixed' (M := []) aq aS bd
 have fv := aq.max
 replace av := RepS.mixed' (M := []) av aS bd
 have fw := av.max
 clear aS
 have dP := al.len
 subst dP
 have dQ := am.len
 subst dQ
 have dR := ao.len
 subst dR
 have dS := aq.len
 subst dS
 refine .r 4 <| .np 30 [.slice none 0 0, .slice none 0 0, .slice none 0 0, .slice none 0 0] fun ai g0 bV cA bP dT => ?_
 have fx := E.cn bV
 replace ⟨al, am, ao, aq, av, E⟩ := (sn [] cA bV).g6 al am ao aq av E
 clear cA dT bV
 refine .np 33 [vI 0, vI 0] fun aj hC bQ cB bW dU => ?_
 have fy := nb_new bQ bP.lt
 have fz := E.cn bQ
 replace ⟨al, am, ao, aq, av, bP, E⟩ := (sn [ai] cB bQ).g7 al am ao aq av bP E
 clear cB dU bQ
 refine .sc [.slice ea C.idx.names.length eb, .slice ec C.idx.posts.length ed, .slice ee C.parts.length ef, .slice eg C.mem.length eh] bP fun hD cC Z dV => ?_
 replace ⟨al, am, ao, aq, av, bW, E⟩ := (so [aj, ai] cC).g7 al am ao aq av bW E
 clear cC dV
 refine .r 1 <| .sc [vI O.t, vI O.v] bW fun dW cD aa dX => ?_
 replace ⟨al, am, ao, aq, av, Z, E⟩ := (so [aj, ai] cD).g7 al am ao aq av Z E
 clear cD dX
 refine .d <| .s <| .g <| .ln Z <| .r 1 <| .ln aa <| .cl (c_spec_StoreAdd C J O al am ao aq av (by have q1 : SD _ ∧ NmD _ ∧ RowSm _ := (by assumption); first | exact q1.1 | exact addP_sd q1.1 q1.2.1 (by assumption) | exact addP_sd (addP_sd q1.1 q1.2.1 (by assumption)) q1.2.1 (by assumption)) (by have q1 : SD _ ∧ NmD _ ∧ RowSm _ := (by assumption); exact NmD.sz q1.2.1) (w := dW) (F := nin (fo F w.heap.size) [aj, ai])) ?_
 rintro hE hH ⟨⟨fA, rfl, ⟨_, rfl, ⟨ei, hJ, ej, ek, hN, em, en, hO, eo, dY, fB, dZ, rfl, ay, az, ar, au⟩⟩⟩, cE⟩
 have aP := al2 aa.lt Z.lt
 have aZ : Gb w.heap.size dW.heap.size := E.size
 replace ⟨al, am, ao, aq, av, Z, aa, E⟩ := (se [aj, ai] cE).g8 al am ao aq av Z aa E
 clear cE
 replace ay := RepS.mixed' (M := [aj, ai]) ay aP aZ
 have ep := ay.max
 replace az := RepS.mixed' (M := [aj, ai]) az aP aZ
 have es := az.max
 replace ar := RepS.mixed' (M := [aj, ai]) ar aP aZ
 have et := ar.max
 replace au := RepS.mixed' (M := [aj, ai]) au aP aZ
 have ew := au.max
 clear aP
 have cX := ay.len
 subst cX
 have cY := az.len
 subst cY
 have cZ := ar.len
 subst cZ
 have c7 := au.len
 subst c7
 refine .r 3 <| .np 30 [.slice none 0 0, .slice none 0 0, .slice none 0 0, .slice none 0 0] fun ag fC aQ bX c8 c9 => ?_
 have ex := nb_new aQ Z.lt
 have ey := nb_new aQ aa.lt
 have ez := E.cn aQ
 replace ⟨al, am, ao, aq, av, Z, aa, ay, az, ar, au, E⟩ := (sn [aj, ai] bX aQ).g12 al am ao aq av Z aa ay az ar au E
 clear bX c9 aQ
 refine .sc [.slice ei (((((addP C J O).1).idx).names).length) ej, .slice ek (((((addP C J O).1).idx).posts).length) em, .slice en ((((addP C J O).1).parts).length) eo, .slice dY ((((addP C J O).1).mem).length) dZ] c8 fun cF bY V da => ?_
 replace ⟨al, am, ao, aq, av, Z, aa, ay, az, ar, au, E⟩ := (so [ag, aj, ai] bY).g12 al am ao aq av Z aa ay az ar au E
 clear bY da
 refine .r 1 <| .d <| .s <| .g <| .ln Z <| .r 1 <| .ln aa <| .cl (c_impl_StoreAdd C J O al am ao aq av (by have q1 : SD _ ∧ NmD _ ∧ RowSm _ := (by assumption); first | exact q1.1 | exact addP_sd q1.1 q1.2.1 (by assumption) | exact addP_sd (addP_sd q1.1 q1.2.1 (by assumption)) q1.2.1 (by assumption)) (by have q1 : SD _ ∧ NmD _ ∧ RowSm _ := (by assumption); exact q1.2.1) (w := cF) (F := nin (fo F w.heap.size) [ag, aj, ai])) ?_
 rintro fD fE ⟨⟨fF, rfl, ⟨_, rfl, ⟨cG, fG, cH, cI, fH, cJ, cK, fI, cL, cM, fJ, cN, rfl, ac, ae, af, ab⟩⟩⟩, bi⟩
 have aR := al3 V.lt aa.lt Z.lt
 have ba : Gb w.heap.size cF.heap.size := E.size
 replace ⟨al, am, ao, aq, av, Z, aa, ay, az, ar, au, V⟩ := (se [ag, aj, ai] bi).g12 al am ao aq av Z aa ay az ar au V
 replace E := (se [ag, aj, ai] bi).g1 E
 clear bi
 replace ac := RepS.mixed' (M := [ag, aj, ai]) ac aR ba
 replace ae := RepS.mixed' (M := [ag, aj, ai]) ae aR ba
 replace af := RepS.mixed' (M := [ag, aj, ai]) af aR ba
 replace ab := RepS.mixed' (M := [ag, aj, ai]) ab aR ba
 clear aR
 have db := ac.len
 subst db
 have dd := ae.len
 subst dd
 have de := af.len
 subst de
 have df := ab.len
 subst df
 refine .r 2 ?_
 cases eA : (addP C J O).2
 · refine .r 1 <| .np 30 [.slice none 0 0, .slice none 0 0, .slice none 0 0, .slice none 0 0] fun aM fK aJ bj dg dh => ?_
   have eB := nb_new aJ Z.lt
   have eC := nb_new aJ aa.lt
   have eD := nb_new aJ V.lt
   have eE := E.cn aJ
   replace ⟨al, am, ao, aq, av, Z, aa, ay, az, ar, au, V⟩ := (sn [ag, aj, ai] bj aJ).g12 al am ao aq av Z aa ay az ar au V
   replace ⟨ac, ae, af, ab, E⟩ := (sn [ag, aj, ai] bj aJ).g5 ac ae af ab E
   clear bj dh aJ
   refine .sc [.slice cG (((((addP C J O).1).idx).names).length) cH, .slice cI (((((addP C J O).1).idx).posts).length) cJ, .slice cK ((((addP C J O).1).parts).length) cL, .slice cM ((((addP C J O).1).mem).length) cN] dg fun d0 bk aK di => ?_
   replace ⟨al, am, ao, aq, av, Z, aa, ay, az, ar, au, V⟩ := (so [aM, ag, aj, ai] bk).g12 al am ao aq av Z aa ay az ar au V
   replace ⟨ac, ae, af, ab, E⟩ := (so [aM, ag, aj, ai] bk).g5 ac ae af ab E
   clear bk di
   refine .r 1 <| .d <| .s <| .s <| .g <| .r 2 <| RG.eqv (v := .bool false) (v' := .bool (false != false)) (by kernel_rfl) (by simp) <| .r 1 <| .ln aK <| .ln V <| .cl (c_laws_lyStore (⟨(⟨(((addP C J O).1).idx).names, (((addP C J O).1).idx).posts⟩ : Idx), ((addP C J O).1).parts, ((addP C J O).1).mem⟩ : Sto) (⟨(⟨(((addP C J O).1).idx).names, (((addP C J O).1).idx).posts⟩ : Idx), ((addP C J O).1).parts, ((addP C J O).1).mem⟩ : Sto) ac.ta ae.ta af.ta ab.ta ay.ta az.ta ar.ta au.ta (w := d0) (F := all)) ?_
   rintro fL cO ⟨rfl, bm⟩
   replace ⟨al, am, ao, aq, av, Z, aa, ay, az, ar, au, V⟩ := (se [aM, ag, aj, ai] bm).g12 al am ao aq av Z aa ay az ar au V
   replace ⟨ac, ae, af, ab, aK, E⟩ := (se [aM, ag, aj, ai] bm).g6 ac ae af ab aK E
   clear bm
   cases eF : ((⟨(⟨(((addP C J O).1).idx).names, (((addP C J O).1).idx).posts⟩ : Idx), ((addP C J O).1).parts, ((addP C J O).1).mem⟩ : Sto) == (⟨(⟨(((addP C J O).1).idx).names, (((addP C J O).1).idx).posts⟩ : Idx), ((addP C J O).1).parts, ((addP C J O).1).mem⟩ : Sto))
   · refine .r 6 <| .d <| .ct <| .s <| .g <| .r 2 <| RG.eqv (v := .bool true) (v' := .bool (false == false)) (by kernel_rfl) (by simp) <| .r 1 <| .ln aK <| .ln V <| .cl (c_laws_lyStore (⟨(⟨(((addP C J O).1).idx).names, (((addP C J O).1).idx).posts⟩ : Idx), ((addP C J O).1).parts, ((addP C J O).1).mem⟩ : Sto) (⟨(⟨(((addP C J O).1).idx).names, (((addP C J O).1).idx).posts⟩ : Idx), ((addP C J O).1).parts, ((addP C J O).1).mem⟩ : Sto) ac.ta ae.ta af.ta ab.ta ay.ta az.ta ar.ta au.ta (w := cO) (F := all)) ?_
     rintro fM fN ⟨rfl, bn⟩
     replace ⟨al, am, ao, aq, av, Z, aa, ay, az, ar, au, V⟩ := (se [aM, ag, aj, ai] bn).g12 al am ao aq av Z aa ay az ar au V
     replace ⟨ac, ae, af, ab, aK, E⟩ := (se [aM, ag, aj, ai] bn).g6 ac ae af ab aK E
     clear bn
     exact .r 2 <| .d <| .rt Tryz.func4 Tryz.results4 (.bool ((⟨(⟨(((addP C J O).1).idx).names, (((addP C J O).1).idx).posts⟩ : Idx), ((addP C J O).1).parts, ((addP C J O).1).mem⟩ : Sto) == (⟨(⟨(((addP C J O).1).idx).names, (((addP C J O).1).idx).posts⟩ : Idx), ((addP C J O).1).parts, ((addP C J O).1).mem⟩ : Sto))) ⟨(congrArg Value.bool (by first | (have q1 : SD _ ∧ NmD _ ∧ RowSm _ := (by assumption); have q2 := law_rows q1.1 (by assumption); exact q2.2.2.2.1) | (have q1 : SD _ ∧ NmD _ ∧ RowSm _ := (by assumption); have q2 := law_rows q1.1 (by assumption); simp_all; done) | (simp_all; done))), E⟩
   refine .r 6 <| .d <| .ct <| .s <| .g <| .r 2 <| RG.eqv (v := .bool true) (v' := .bool (false == false)) (by kernel_rfl) (by simp) <| .r 1 <| .ln aK <| .ln V <| .cl (c_laws_lyStore (⟨(⟨(((addP C J O).1).idx).names, (((addP C J O).1).idx).posts⟩ : Idx), ((addP C J O).1).parts, ((addP C J O).1).mem⟩ : Sto) (⟨(⟨(((addP C J O).1).idx).names, (((addP C J O).1).idx).posts⟩ : Idx), ((addP C J O).1).parts, ((addP C J O).1).mem⟩ : Sto) ac.ta ae.ta af.ta ab.ta ay.ta az.ta ar.ta au.ta (w := cO) (F := all)) ?_
   rintro fO fP ⟨rfl, bo⟩
   replace ⟨al, am, ao, aq, av, Z, aa, ay, az, ar, au, V⟩ := (se [aM, ag, aj, ai] bo).g12 al am ao aq av Z aa ay az ar au V
   replace ⟨ac, ae, af, ab, E⟩ := (se [aM, ag, aj, ai] bo).g5 ac ae af ab E
   clear bo
   exact .r 2 <| .d <| .rt Tryz.func4 Tryz.results4 (.bool ((⟨(⟨(((addP C J O).1).idx).names, (((addP C J O).1).idx).posts⟩ : Idx), ((addP C J O).1).parts, ((addP C J O).1).mem⟩ : Sto) == (⟨(⟨(((addP C J O).1).idx).names, (((addP C J O).1).idx).posts⟩ : Idx), ((addP C J O).1).parts, ((addP C J O).1).mem⟩ : Sto))) ⟨(congrArg Value.bool (by first | (have q1 : SD _ ∧ NmD _ ∧ RowSm _ := (by assumption); have q2 := law_rows q1.1 (by assumption); exact q2.2.2.2.1) | (have q1 : SD _ ∧ NmD _ ∧ RowSm _ := (by assumption); have q2 := law_rows q1.1 (by assumption); simp_all; done) | (simp_all; done))), E⟩
 refine .r 1 <| .np 30 [.slice none 0 0, .slice none 0 0, .slice none 0 0, .slice none 0 0] fun ak fQ aL bq dj dk => ?_
 have eG := nb_new aL Z.lt
 have eH := nb_new aL aa.lt
 have eI := nb_new aL V.lt
 have eJ := E.cn aL
 replace ⟨al, am, ao, aq, av, Z, aa, ay, az, ar, au, V⟩ := (sn [ag, aj, ai] bq aL).g12 al am ao aq av Z aa ay az ar au V
 replace ⟨ac, ae, af, ab, E⟩ := (sn [ag, aj, ai] bq aL).g5 ac ae af ab E
 clear bq dk aL
 refine .sc [.slice cG (((((addP C J O).1).idx).names).length) cH, .slice cI (((((addP C J O).1).idx).posts).length) cJ, .slice cK ((((addP C J O).1).parts).length) cL, .slice cM ((((addP C J O).1).mem).length) cN] dj fun d3 br W dm => ?_
 replace ⟨al, am, ao, aq, av, Z, aa, ay, az, ar, au, V⟩ := (so [ak, ag, aj, ai] br).g12 al am ao aq av Z aa ay az ar au V
 replace ⟨ac, ae, af, ab, E⟩ := (so [ak, ag, aj, ai] br).g5 ac ae af ab E
 clear br dm
 refine .r 1 <| .d <| .s <| .s <| .g <| .r 2 <| RG.eqv (v := .bool false) (v' := .bool (true != true)) (by kernel_rfl) (by simp) <| .r 1 <| .ln W <| .ln V <| .cl (c_laws_lyStore (⟨(⟨(((addP C J O).1).idx).names, (((addP C J O).1).idx).posts⟩ : Idx), ((addP C J O).1).parts, ((addP C J O).1).mem⟩ : Sto) (⟨(⟨(((addP C J O).1).idx).names, (((addP C J O).1).idx).posts⟩ : Idx), ((addP C J O).1).parts, ((addP C J O).1).mem⟩ : Sto) ac.ta ae.ta af.ta ab.ta ay.ta az.ta ar.ta au.ta (w := d3) (F := all)) ?_
 rintro fR bZ ⟨rfl, bt⟩
 replace ⟨al, am, ao, aq, av, Z, aa, ay, az, ar, au, V⟩ := (se [ak, ag, aj, ai] bt).g12 al am ao aq av Z aa ay az ar au V
 replace ⟨ac, ae, af, ab, W, E⟩ := (se [ak, ag, aj, ai] bt).g6 ac ae af ab W E
 clear bt
 cases eK : ((⟨(⟨(((addP C J O).1).idx).names, (((addP C J O).1).idx).posts⟩ : Idx), ((addP C J O).1).parts, ((addP C J O).1).mem⟩ : Sto) == (⟨(⟨(((addP C J O).1).idx).names, (((addP C J O).1).idx).posts⟩ : Idx), ((addP C J O).1).parts, ((addP C J O).1).mem⟩ : Sto))
 · refine .r 6 <| .d <| .ct <| .s <| .g <| .r 2 <| RG.eqv (v := .bool true) (v' := .bool (true == true)) (by kernel_rfl) (by simp) <| .r 1 <| .ln W <| .ln V <| .cl (c_laws_lyStore (⟨(⟨(((addP C J O).1).idx).names, (((addP C J O).1).idx).posts⟩ : Idx), ((addP C J O).1).parts, ((addP C J O).1).mem⟩ : Sto) (⟨(⟨(((addP C J O).1).idx).names, (((addP C J O).1).idx).posts⟩ : Idx), ((addP C J O).1).parts, ((addP C J O).1).mem⟩ : Sto) ac.ta ae.ta af.ta ab.ta ay.ta az.ta ar.ta au.ta (w := bZ) (F := all)) ?_
   rintro fS fT ⟨rfl, bu⟩
   replace ⟨al, am, ao, aq, av, Z, aa, V, ac, ae, af, ab⟩ := (se [ak, ag, aj, ai] bu).g12 al am ao aq av Z aa V ac ae af ab
   replace ⟨W, E⟩ := (se [ak, ag, aj, ai] bu).g2 W E
   clear bu
   exact .r 2 <| .d <| .rt Tryz.func4 Tryz.results4 (.bool ((⟨(⟨(((addP C J O).1).idx).names, (((addP C J O).1).idx).posts⟩ : Idx), ((addP C J O).1).parts, ((addP C J O).1).mem⟩ : Sto) == (⟨(⟨(((addP C J O).1).idx).names, (((addP C J O).1).idx).posts⟩ : Idx), ((addP C J O).1).parts, ((addP C J O).1).mem⟩ : Sto))) ⟨(congrArg Value.bool (by first | (have q1 : SD _ ∧ NmD _ ∧ RowSm _ := (by assumption); have q2 := law_rows q1.1 (by assumption); exact q2.2.2.2.1) | (have q1 : SD _ ∧ NmD _ ∧ RowSm _ := (by assumption); have q2 := law_rows q1.1 (by assumption); simp_all; done) | (simp_all; done))), E⟩
 refine .r 6 <| .d <| .cf <| .sk <| .s <| .g <| .r 1 <| .ln Z <| .r 1 <| .cl (c_impl_IndexAdd C.idx J al am av (by have q1 : SD _ ∧ NmD _ ∧ RowSm _ := (by assumption); exact q1.1.ix) (by have q1 : SD _ ∧ NmD _ ∧ RowSm _ := (by assumption); exact q1.1.nd) (by have q1 : SD _ ∧ NmD _ ∧ RowSm _ := (by assumption); exact q1.2.1) (w := bZ) (F := nin (fo F w.heap.size) [ak, ag, aj, ai])) ?_
 rintro fU fV ⟨⟨fW, rfl, ⟨_, rfl, ⟨cP, fX, cQ, cR, fY, cS, rfl, bR, bS⟩⟩⟩, bv⟩
 have bw := al4 W.lt V.lt aa.lt Z.lt
 have b0 : Gb w.heap.size bZ.heap.size := E.size
 replace ⟨al, am, ao, aq, Z, aa, V, ac, ae, af, ab, W⟩ := (se [ak, ag, aj, ai] bv).g12 al am ao aq Z aa V ac ae af ab W
 replace E := (se [ak, ag, aj, ai] bv).g1 E
 clear bv
 replace bR := RepS.mixed' (M := [ak, ag, aj, ai]) bR bw b0
 have eL := bR.max
 replace bS := RepS.mixed' (M := [ak, ag, aj, ai]) bS bw b0
 have eM := bS.max
 clear bw
 have dp := bR.len
 subst dp
 have dq := bS.len
 subst dq
 refine .r 3 ?_
 cases eN : (addI C.idx J).2.2
 · refine .r 1 <| .np 26 [.slice none 0 0, .slice none 0 0] fun aA fZ aH bz dr dt => ?_
   have eO := nb_new aH Z.lt
   have eP := nb_new aH aa.lt
   have eQ := nb_new aH V.lt
   have eR := nb_new aH W.lt
   have eS := E.cn aH
   replace ⟨al, am, ao, aq, Z, aa, V, ac, ae, af, ab, W⟩ := (sn [ak, ag, aj, ai] bz aH).g12 al am ao aq Z aa V ac ae af ab W
   replace E := (sn [ak, ag, aj, ai] bz aH).g1 E
   clear bz dt aH
   refine .sc [.slice cP ((((addI C.idx J).1).names).length) cQ, .slice cR ((((addI C.idx J).1).posts).length) cS] dr fun cT bA aB du => ?_
   replace ⟨al, am, ao, aq, Z, aa, V, ac, ae, af, ab, W⟩ := (so [aA, ak, ag, aj, ai] bA).g12 al am ao aq Z aa V ac ae af ab W
   replace E := (so [aA, ak, ag, aj, ai] bA).g1 E
   clear bA du
   refine .r 2 <| .d <| .s <| .s <| .g <| .r 1 <| .d <| .b 0 <| T.loop (X := Nat) 1 (fun k => [(3, .pointer (some ⟨ai, 0, none⟩)), (5, .pointer (some ⟨aj, 0, none⟩)), (8, .pointer (some ⟨ak, 0, none⟩)), (11, vI ((addI C.idx J).2.1)), (12, .bool false), (13, vI (k : Int))]) (fun k bg => Chg (ins []) cT bg ∧ (1 ≤ k) ∧ (k ≤ 7)) (fun k => 7 - k) (by kernel_rfl) ⟨by kernel_rfl, by kernel_rfl, by kernel_rfl, by kernel_rfl, by kernel_rfl, by kernel_rfl, trivial⟩ ⟨Chg.refl _ _, (by omega), (by omega)⟩ ?_
   rintro k f0 bg ⟨aw, eT, eU⟩ aT
   have bB : Mv [aA, ak, ag, aj, ai] [aA, ak, ag, aj, ai] cT bg := Mv.inl aw all_nil (all_cons (.inl (.head _)) (all_cons (.inl (.tail _ (.head _))) (all_cons (.inl (.tail _ (.tail _ (.head _)))) (all_cons (.inl (.tail _ (.tail _ (.tail _ (.head _))))) (all_cons (.inl (.tail _ (.tail _ (.tail _ (.tail _ (.head _)))))) all_nil)))))
   replace ⟨al, am, ao, aq, Z, aa, V, ac, ae, af, ab, W⟩ := (sp bB aw).g12 al am ao aq Z aa V ac ae af ab W
   replace ⟨aB, E⟩ := (sp bB aw).g2 aB E
   clear bB
   refine .s <| .s <| .g <| .r 3 <| .lb W <| .r 1 <| .bp ((k : Int) ≤ ((((((addP C J O).1).idx).names).length) : Int)) (fun dv => ?_) (fun dv => ?_)
   · refine .d <| .ct <| .sk <| .s <| .b 1 <| .s <| .g <| .ln Z <| .r 1 <| .cl (c_impl_StoreRows C (k : Int) al.ta am.ta ao.ta aq.ta (by have q1 : SD _ ∧ NmD _ ∧ RowSm _ := (by assumption); first | exact q1.1 | exact addP_sd q1.1 q1.2.1 (by assumption) | exact addP_sd (addP_sd q1.1 q1.2.1 (by assumption)) q1.2.1 (by assumption)) (w := bg) (F := all)) ?_
     rintro f3 bT ⟨⟨f4, f5, rfl, aE⟩, bC⟩
     have b6 := al5 aB.lt W.lt V.lt aa.lt Z.lt
     have dw : Gb w.heap.size bg.heap.size := E.size
     replace ⟨al, am, ao, aq, Z, aa, V, ac, ae, af, ab, W⟩ := (se [aA, ak, ag, aj, ai] bC).g12 al am ao aq Z aa V ac ae af ab W
     replace ⟨aB, E, aw⟩ := (se [aA, ak, ag, aj, ai] bC).g3 aB E aw
     clear bC
     have aE := aE.fr b6 dw
     replace aE := aE.base (G' := fo F w.heap.size) (fun _ _ h => .inr h)
     have eV := aE.max
     clear b6
     refine .r 1 <| .d <| .s <| .s <| .g <| .r 2 <| .eq (k : Int) ((addI C.idx J).2.1) (fun dx => ?_) (fun dx => ?_)
     · refine .d <| .ct <| .g <| .r 1 <| .ln aa <| .cl (c_impl_BlockPut (rowsI C (k : Int)) O aE.ta (by have q1 : SD _ ∧ NmD _ ∧ RowSm _ := (by assumption); have q2 := rowsI_len q1.1; refine Nat.le_trans (q2 _) (by omega)) (w := bT) (F := all)) ?_
       rintro f6 cU ⟨⟨f7, rfl, ⟨f8, f9, rfl, aN⟩⟩, bD⟩
       have b7 := al5 aB.lt W.lt V.lt aa.lt Z.lt
       have dy : Gb w.heap.size bT.heap.size := E.size
       replace ⟨al, am, ao, aq, Z, aa, V, ac, ae, af, ab, W⟩ := (se [aA, ak, ag, aj, ai] bD).g12 al am ao aq Z aa V ac ae af ab W
       replace ⟨aB, aE, E, aw⟩ := (se [aA, ak, ag, aj, ai] bD).g4 aB aE E aw
       clear bD
       have aN := aN.fr b7 dy
       replace aN := aN.base (G' := fo F w.heap.size) (fun _ _ h => .inr h)
       have eW := aN.max
       clear b7
       refine .r 4 <| .d <| .s <| .g <| .ln W <| .r 1 <| .cl (c_impl_StoreRows (⟨(⟨(((addP C J O).1).idx).names, (((addP C J O).1).idx).posts⟩ : Idx), ((addP C J O).1).parts, ((addP C J O).1).mem⟩ : Sto) (k : Int) ac.ta ae.ta af.ta ab.ta (by have q1 : SD _ ∧ NmD _ ∧ RowSm _ := (by assumption); first | exact q1.1 | exact addP_sd q1.1 q1.2.1 (by assumption) | exact addP_sd (addP_sd q1.1 q1.2.1 (by assumption)) q1.2.1 (by assumption)) (w := cU) (F := all)) ?_
       rintro ga d4 ⟨⟨gb, gf, rfl, aU⟩, bE⟩
       have b8 := al5 aB.lt W.lt V.lt aa.lt Z.lt
       have dz : Gb w.heap.size cU.heap.size := E.size
       replace ⟨al, am, ao, aq, Z, aa, V, ac, ae, af, ab, W⟩ := (se [aA, ak, ag, aj, ai] bE).g12 al am ao aq Z aa V ac ae af ab W
       replace ⟨aB, aE, aN, E, aw⟩ := (se [aA, ak, ag, aj, ai] bE).g5 aB aE aN E aw
       clear bE
       have aU := aU.fr b8 dz
       replace aU := aU.base (G' := fo F w.heap.size) (fun _ _ h => .inr h)
       have eX := aU.max
       clear b8
       refine .r 1 <| .cl (c_laws_lyRows (rowsI (⟨(⟨(((addP C J O).1).idx).names, (((addP C J O).1).idx).posts⟩ : Idx), ((addP C J O).1).parts, ((addP C J O).1).mem⟩ : Sto) (k : Int)) ((putI (rowsI C (k : Int)) O).1) aU.ta aN.ta (w := d4) (F := all)) ?_
       rintro gg gh ⟨rfl, bF⟩
       replace ⟨al, am, ao, aq, Z, aa, V, ac, ae, af, ab, W⟩ := (se [aA, ak, ag, aj, ai] bF).g12 al am ao aq Z aa V ac ae af ab W
       replace ⟨aB, aE, E, aw⟩ := (se [aA, ak, ag, aj, ai] bF).g4 aB aE E aw
       clear bF
       cases eY : ((rowsI (⟨(⟨(((addP C J O).1).idx).names, (((addP C J O).1).idx).posts⟩ : Idx), ((addP C J O).1).parts, ((addP C J O).1).mem⟩ : Sto) (k : Int)) == ((putI (rowsI C (k : Int)) O).1))
       · exact .r 1 <| .d <| .ct <| .s <| .g <| .r 1 <| .d <| .rt Tryz.func4 Tryz.results4 (.bool false) ⟨(congrArg Value.bool (by have q1 : SD _ ∧ NmD _ ∧ RowSm _ := (by assumption); exfalso; first | exact rows_y q1.1 (by assumption) (by assumption) (by assumption) (by assumption) | exact rows_n q1.1 (by assumption) (by assumption) (by assumption) (by assumption) | (have q2 := law_rows q1.1 (by assumption); have q3 := q2.2.1; have q4 := q2.2.2.1; simp_all; done) | (simp_all; done))), E⟩
       exact .r 1 <| .d <| .cf <| .sk <| .ib 1 <| .g <| .r 1 <| RG.int ((k : Int) + 1) (by kernel_rfl) (by have q1 : SD _ ∧ NmD _ ∧ RowSm _ := (by assumption); have q2 := (addP_sd q1.1 q1.2.1 (by assumption)).nm.len; have q3 := q1.1.nm2; omega) <| .r 1 <| .d <| aT (k + 1) _ _ ⟨by kernel_rfl, by kernel_rfl, by kernel_rfl, by kernel_rfl, by kernel_rfl, by kernel_rfl, trivial⟩ ⟨aw, (by omega), (by have q1 : SD _ ∧ NmD _ ∧ RowSm _ := (by assumption); have q2 := (addP_sd q1.1 q1.2.1 (by assumption)).nm.len; omega)⟩ (by have q1 : SD _ ∧ NmD _ ∧ RowSm _ := (by assumption); have q2 := (addP_sd q1.1 q1.2.1 (by assumption)).nm.len; omega)
     refine .d <| .cf <| .sk <| .s <| .g <| .ln W <| .r 1 <| .cl (c_impl_StoreRows (⟨(⟨(((addP C J O).1).idx).names, (((addP C J O).1).idx).posts⟩ : Idx), ((addP C J O).1).parts, ((addP C J O).1).mem⟩ : Sto) (k : Int) ac.ta ae.ta af.ta ab.ta (by have q1 : SD _ ∧ NmD _ ∧ RowSm _ := (by assumption); first | exact q1.1 | exact addP_sd q1.1 q1.2.1 (by assumption) | exact addP_sd (addP_sd q1.1 q1.2.1 (by assumption)) q1.2.1 (by assumption)) (w := bT) (F := all)) ?_
     rintro gi d5 ⟨⟨gj, gk, rfl, aV⟩, bG⟩
     have b9 := al5 aB.lt W.lt V.lt aa.lt Z.lt
     have dB : Gb w.heap.size bT.heap.size := E.size
     replace ⟨al, am, ao, aq, Z, aa, V, ac, ae, af, ab, W⟩ := (se [aA, ak, ag, aj, ai] bG).g12 al am ao aq Z aa V ac ae af ab W
     replace ⟨aE, E, aw⟩ := (se [aA, ak, ag, aj, ai] bG).g3 aE E aw
     clear bG
     have aV := aV.fr b9 dB
     replace aV := aV.base (G' := fo F w.heap.size) (fun _ _ h => .inr h)
     have eZ := aV.max
     clear b9
     refine .r 1 <| .cl (c_laws_lyRows (rowsI (⟨(⟨(((addP C J O).1).idx).names, (((addP C J O).1).idx).posts⟩ : Idx), ((addP C J O).1).parts, ((addP C J O).1).mem⟩ : Sto) (k : Int)) (rowsI C (k : Int)) aV.ta aE.ta (w := d5) (F := all)) ?_
     rintro gl gm ⟨rfl, bH⟩
     replace ⟨al, am, ao, aq, Z, aa, V, ac, ae, af, ab, W⟩ := (se [aA, ak, ag, aj, ai] bH).g12 al am ao aq Z aa V ac ae af ab W
     replace ⟨E, aw⟩ := (se [aA, ak, ag, aj, ai] bH).g2 E aw
     clear bH
     cases e0 : ((rowsI (⟨(⟨(((addP C J O).1).idx).names, (((addP C J O).1).idx).posts⟩ : Idx), ((addP C J O).1).parts, ((addP C J O).1).mem⟩ : Sto) (k : Int)) == (rowsI C (k : Int)))
     · exact .r 1 <| .d <| .ct <| .s <| .g <| .r 1 <| .d <| .rt Tryz.func4 Tryz.results4 (.bool false) ⟨(congrArg Value.bool (by have q1 : SD _ ∧ NmD _ ∧ RowSm _ := (by assumption); exfalso; first | exact rows_y q1.1 (by assumption) (by assumption) (by assumption) (by assumption) | exact rows_n q1.1 (by assumption) (by assumption) (by assumption) (by assumption) | (have q2 := law_rows q1.1 (by assumption); have q3 := q2.2.1; have q4 := q2.2.2.1; simp_all; done) | (simp_all; done))), E⟩
     exact .r 1 <| .d <| .cf <| .sk <| .ib 1 <| .g <| .r 1 <| RG.int ((k : Int) + 1) (by kernel_rfl) (by have q1 : SD _ ∧ NmD _ ∧ RowSm _ := (by assumption); have q2 := (addP_sd q1.1 q1.2.1 (by assumption)).nm.len; have q3 := q1.1.nm2; omega) <| .r 1 <| .d <| aT (k + 1) _ _ ⟨by kernel_rfl, by kernel_rfl, by kernel_rfl, by kernel_rfl, by kernel_rfl, by kernel_rfl, trivial⟩ ⟨aw, (by omega), (by have q1 : SD _ ∧ NmD _ ∧ RowSm _ := (by assumption); have q2 := (addP_sd q1.1 q1.2.1 (by assumption)).nm.len; omega)⟩ (by have q1 : SD _ ∧ NmD _ ∧ RowSm _ := (by assumption); have q2 := (addP_sd q1.1 q1.2.1 (by assumption)).nm.len; omega)
   refine .d <| .cf <| .x 0 rfl <| .s <| .gd nil 31 fun gn bI => ?_
   replace ⟨al, am, ao, aq, Z, aa, V, ac, ae, af, ab, W⟩ := (se [aA, ak, ag, aj, ai] bI).g12 al am ao aq Z aa V ac ae af ab W
   replace E := (se [aA, ak, ag, aj, ai] bI).g1 E
   clear bI
   refine .r [0, 1, 2, 3, 4, 5, 6, 7, 8, 9, 10, 11, 12, 13, 14, 15, 16, 17, 18, 19, 20, 21, 22, 23, 24, 25, 26, 27, 28, 29, 30] <| .d fun gp bJ => ?_
   replace ⟨al, am, ao, aq, Z, aa, V, ac, ae, af, ab, W⟩ := (se [aA, ak, ag, aj, ai] bJ).g12 al am ao aq Z aa V ac ae af ab W
   replace E := (se [aA, ak, ag, aj, ai] bJ).g1 E
   clear bJ
   exact .r 7 <| .d <| .rt Tryz.func4 Tryz.results4 (.bool false) ⟨(congrArg Value.bool (by have q1 : SD _ ∧ NmD _ ∧ RowSm _ := (by assumption); exfalso; first | exact rows_y q1.1 (by assumption) (by assumption) (by assumption) (by assumption) | exact rows_n q1.1 (by assumption) (by assumption) (by assumption) (by assumption) | (have q2 := law_rows q1.1 (by assumption); have q3 := q2.2.1; have q4 := q2.2.2.1; simp_all; done) | (simp_all; done))), E⟩
 refine .r 1 <| .np 26 [.slice none 0 0, .slice none 0 0] fun aG gq aI bK dC dD => ?_
 have e7 := nb_new aI Z.lt
 have e8 := nb_new aI aa.lt
 have e9 := nb_new aI V.lt
 have fa := nb_new aI W.lt
 have fb := E.cn aI
 replace ⟨al, am, ao, aq, Z, aa, V, ac, ae, af, ab, W⟩ := (sn [ak, ag, aj, ai] bK aI).g12 al am ao aq Z aa V ac ae af ab W
 replace E := (sn [ak, ag, aj, ai] bK aI).g1 E
 clear bK dD aI
 refine .sc [.slice cP ((((addI C.idx J).1).names).length) cQ, .slice cR ((((addI C.idx J).1).posts).length) cS] dC fun cV bL aC dE => ?_
 replace ⟨al, am, ao, aq, Z, aa, V, ac, ae, af, ab, W⟩ := (so [aG, ak, ag, aj, ai] bL).g12 al am ao aq Z aa V ac ae af ab W
 replace E := (so [aG, ak, ag, aj, ai] bL).g1 E
 clear bL dE
 refine .r 2 <| .d <| .s <| .s <| .g <| .r 1 <| .d <| .b 0 <| T.loop (X := Nat) 1 (fun k => [(3, .pointer (some ⟨ai, 0, none⟩)), (5, .pointer (some ⟨aj, 0, none⟩)), (8, .pointer (some ⟨ak, 0, none⟩)), (11, vI ((addI C.idx J).2.1)), (12, .bool true), (13, vI (k : Int))]) (fun k bh => Chg (ins []) cV bh ∧ (1 ≤ k) ∧ (k ≤ 7)) (fun k => 7 - k) (by kernel_rfl) ⟨by kernel_rfl, by kernel_rfl, by kernel_rfl, by kernel_rfl, by kernel_rfl, by kernel_rfl, trivial⟩ ⟨Chg.refl _ _, (by omega), (by omega)⟩ ?_
 rintro k gr bh ⟨ax, fc, fd⟩ aW
 have bM : Mv [aG, ak, ag, aj, ai] [aG, ak, ag, aj, ai] cV bh := Mv.inl ax all_nil (all_cons (.inl (.head _)) (all_cons (.inl (.tail _ (.head _))) (all_cons (.inl (.tail _ (.tail _ (.head _)))) (all_cons (.inl (.tail _ (.tail _ (.tail _ (.head _))))) (all_cons (.inl (.tail _ (.tail _ (.tail _ (.tail _ (.head _)))))) all_nil)))))
 replace ⟨al, am, ao, aq, Z, aa, V, ac, ae, af, ab, W⟩ := (sp bM ax).g12 al am ao aq Z aa V ac ae af ab W
 replace ⟨aC, E⟩ := (sp bM ax).g2 aC E
 clear bM
 refine .s <| .s <| .g <| .r 3 <| .lb W <| .r 1 <| .bp ((k : Int) ≤ ((((((addP C J O).1).idx).names).length) : Int)) (fun dF => ?_) (fun dF => ?_)
 · refine .d <| .ct <| .sk <| .s <| .b 1 <| .s <| .g <| .ln Z <| .r 1 <| .cl (c_impl_StoreRows C (k : Int) al.ta am.ta ao.ta aq.ta (by have q1 : SD _ ∧ NmD _ ∧ RowSm _ := (by assumption); first | exact q1.1 | exact addP_sd q1.1 q1.2.1 (by assumption) | exact addP_sd (addP_sd q1.1 q1.2.1 (by assumption)) q1.2.1 (by assumption)) (w := bh) (F := all)) ?_
   rintro gs bU ⟨⟨gt, gu, rfl, aF⟩, cd⟩
   have ce := al5 aC.lt W.lt V.lt aa.lt Z.lt
   have dG : Gb w.heap.size bh.heap.size := E.size
   replace ⟨Z, aa, V, ac, ae, af, ab, W, aC, E, ax⟩ := (se [aG, ak, ag, aj, ai] cd).g11 Z aa V ac ae af ab W aC E ax
   clear cd
   have aF := aF.fr ce dG
   replace aF := aF.base (G' := fo F w.heap.size) (fun _ _ h => .inr h)
   have fe := aF.max
   clear ce
   refine .r 1 <| .d <| .s <| .s <| .g <| .r 2 <| .eq (k : Int) ((addI C.idx J).2.1) (fun dH => ?_) (fun dH => ?_)
   · refine .d <| .ct <| .g <| .r 1 <| .ln aa <| .cl (c_impl_BlockPut (rowsI C (k : Int)) O aF.ta (by have q1 : SD _ ∧ NmD _ ∧ RowSm _ := (by assumption); have q2 := rowsI_len q1.1; refine Nat.le_trans (q2 _) (by omega)) (w := bU) (F := all)) ?_
     rintro gv cW ⟨⟨gw, rfl, ⟨gx, gy, rfl, aO⟩⟩, cg⟩
     have ci := al5 aC.lt W.lt V.lt aa.lt Z.lt
     have dI : Gb w.heap.size bU.heap.size := E.size
     replace ⟨Z, aa, V, ac, ae, af, ab, W, aC, aF, E, ax⟩ := (se [aG, ak, ag, aj, ai] cg).g12 Z aa V ac ae af ab W aC aF E ax
     clear cg
     have aO := aO.fr ci dI
     replace aO := aO.base (G' := fo F w.heap.size) (fun _ _ h => .inr h)
     have ff := aO.max
     clear ci
     refine .r 4 <| .d <| .s <| .g <| .ln W <| .r 1 <| .cl (c_impl_StoreRows (⟨(⟨(((addP C J O).1).idx).names, (((addP C J O).1).idx).posts⟩ : Idx), ((addP C J O).1).parts, ((addP C J O).1).mem⟩ : Sto) (k : Int) ac.ta ae.ta af.ta ab.ta (by have q1 : SD _ ∧ NmD _ ∧ RowSm _ := (by assumption); first | exact q1.1 | exact addP_sd q1.1 q1.2.1 (by assumption) | exact addP_sd (addP_sd q1.1 q1.2.1 (by assumption)) q1.2.1 (by assumption)) (w := cW) (F := all)) ?_
     rintro gz d6 ⟨⟨gA, gC, rfl, aX⟩, bN⟩
     have cj := al5 aC.lt W.lt V.lt aa.lt Z.lt
     have dJ : Gb w.heap.size cW.heap.size := E.size
     replace ⟨Z, aa, V, ac, ae, af, ab, W, aC, aF, aO, E⟩ := (se [aG, ak, ag, aj, ai] bN).g12 Z aa V ac ae af ab W aC aF aO E
     replace ax := (se [aG, ak, ag, aj, ai] bN).g1 ax
     clear bN
     have aX := aX.fr cj dJ
     replace aX := aX.base (G' := fo F w.heap.size) (fun _ _ h => .inr h)
     have fg := aX.max
     clear cj
     refine .r 1 <| .cl (c_laws_lyRows (rowsI (⟨(⟨(((addP C J O).1).idx).names, (((addP C J O).1).idx).posts⟩ : Idx), ((addP C J O).1).parts, ((addP C J O).1).mem⟩ : Sto) (k : Int)) ((putI (rowsI C (k : Int)) O).1) aX.ta aO.ta (w := d6) (F := all)) ?_
     rintro gD gE ⟨rfl, ck⟩
     replace ⟨Z, aa, V, ac, ae, af, ab, W, aC, aF, E, ax⟩ := (se [aG, ak, ag, aj, ai] ck).g12 Z aa V ac ae af ab W aC aF E ax
     clear ck
     cases fh : ((rowsI (⟨(⟨(((addP C J O).1).idx).names, (((addP C J O).1).idx).posts⟩ : Idx), ((addP C J O).1).parts, ((addP C J O).1).mem⟩ : Sto) (k : Int)) == ((putI (rowsI C (k : Int)) O).1))
     · exact .r 1 <| .d <| .ct <| .s <| .g <| .r 1 <| .d <| .rt Tryz.func4 Tryz.results4 (.bool false) ⟨(congrArg Value.bool (by have q1 : SD _ ∧ NmD _ ∧ RowSm _ := (by assumption); exfalso; first | exact rows_y q1.1 (by assumption) (by assumption) (by assumption) (by assumption) | exact rows_n q1.1 (by assumption) (by assumption) (by assumption) (by assumption) | (have q2 := law_rows q1.1 (by assumption); have q3 := q2.2.1; have q4 := q2.2.2.1; simp_all; done) | (simp_all; done))), E⟩
     exact .r 1 <| .d <| .cf <| .sk <| .ib 1 <| .g <| .r 1 <| RG.int ((k : Int) + 1) (by kernel_rfl) (by have q1 : SD _ ∧ NmD _ ∧ RowSm _ := (by assumption); have q2 := (addP_sd q1.1 q1.2.1 (by assumption)).nm.len; have q3 := q1.1.nm2; omega) <| .r 1 <| .d <| aW (k + 1) _ _ ⟨by kernel_rfl, by kernel_rfl, by kernel_rfl, by kernel_rfl, by kernel_rfl, by kernel_rfl, trivial⟩ ⟨ax, (by omega), (by have q1 : SD _ ∧ NmD _ ∧ RowSm _ := (by assumption); have q2 := (addP_sd q1.1 q1.2.1 (by assumption)).nm.len; omega)⟩ (by have q1 : SD _ ∧ NmD _ ∧ RowSm _ := (by assumption); have q2 := (addP_sd q1.1 q1.2.1 (by assumption)).nm.len; omega)
   refine .d <| .cf <| .sk <| .s <| .g <| .ln W <| .r 1 <| .cl (c_impl_StoreRows (⟨(⟨(((addP C J O).1).idx).names, (((addP C J O).1).idx).posts⟩ : Idx), ((addP C J O).1).parts, ((addP C J O).1).mem⟩ : Sto) (k : Int) ac.ta ae.ta af.ta ab.ta (by have q1 : SD _ ∧ NmD _ ∧ RowSm _ := (by assumption); first | exact q1.1 | exact addP_sd q1.1 q1.2.1 (by assumption) | exact addP_sd (addP_sd q1.1 q1.2.1 (by assumption)) q1.2.1 (by assumption)) (w := bU) (F := all)) ?_
   rintro gF d7 ⟨⟨gG, gH, rfl, aY⟩, cm⟩
   have co := al5 aC.lt W.lt V.lt aa.lt Z.lt
   have dK : Gb w.heap.size bU.heap.size := E.size
   replace ⟨Z, aa, ac, ae, af, ab, W, aF, E, ax⟩ := (se [aG, ak, ag, aj, ai] cm).g10 Z aa ac ae af ab W aF E ax
   clear cm
   have aY := aY.fr co dK
   replace aY := aY.base (G' := fo F w.heap.size) (fun _ _ h => .inr h)
   have fi := aY.max
   clear co
   refine .r 1 <| .cl (c_laws_lyRows (rowsI (⟨(⟨(((addP C J O).1).idx).names, (((addP C J O).1).idx).posts⟩ : Idx), ((addP C J O).1).parts, ((addP C J O).1).mem⟩ : Sto) (k : Int)) (rowsI C (k : Int)) aY.ta aF.ta (w := d7) (F := all)) ?_
   rintro gI gJ ⟨rfl, cp⟩
   replace ⟨Z, aa, ac, ae, af, ab, W, E, ax⟩ := (se [aG, ak, ag, aj, ai] cp).g9 Z aa ac ae af ab W E ax
   clear cp
   cases fj : ((rowsI (⟨(⟨(((addP C J O).1).idx).names, (((addP C J O).1).idx).posts⟩ : Idx), ((addP C J O).1).parts, ((addP C J O).1).mem⟩ : Sto) (k : Int)) == (rowsI C (k : Int)))
   · exact .r 1 <| .d <| .ct <| .s <| .g <| .r 1 <| .d <| .rt Tryz.func4 Tryz.results4 (.bool false) ⟨(congrArg Value.bool (by have q1 : SD _ ∧ NmD _ ∧ RowSm _ := (by assumption); exfalso; first | exact rows_y q1.1 (by assumption) (by assumption) (by assumption) (by assumption) | exact rows_n q1.1 (by assumption) (by assumption) (by assumption) (by assumption) | (have q2 := law_rows q1.1 (by assumption); have q3 := q2.2.1; have q4 := q2.2.2.1; simp_all; done) | (simp_all; done))), E⟩
   exact .r 1 <| .d <| .cf <| .sk <| .ib 1 <| .g <| .r 1 <| RG.int ((k : Int) + 1) (by kernel_rfl) (by have q1 : SD _ ∧ NmD _ ∧ RowSm _ := (by assumption); have q2 := (addP_sd q1.1 q1.2.1 (by assumption)).nm.len; have q3 := q1.1.nm2; omega) <| .r 1 <| .d <| aW (k + 1) _ _ ⟨by kernel_rfl, by kernel_rfl, by kernel_rfl, by kernel_rfl, by kernel_rfl, by kernel_rfl, trivial⟩ ⟨ax, (by omega), (by have q1 : SD _ ∧ NmD _ ∧ RowSm _ := (by assumption); have q2 := (addP_sd q1.1 q1.2.1 (by assumption)).nm.len; omega)⟩ (by have q1 : SD _ ∧ NmD _ ∧ RowSm _ := (by assumption); have q2 := (addP_sd q1.1 q1.2.1 (by assumption)).nm.len; omega)
 refine .d <| .cf <| .x 0 rfl <| .s <| .gd nil 31 fun gK cq => ?_
 replace ⟨Z, aa, ac, ae, af, ab, W, E⟩ := (se [aG, ak, ag, aj, ai] cq).g8 Z aa ac ae af ab W E
 clear cq
 refine .r [0, 1, 2] <| .lb 3 W id <| .r [4, 5] <| .lb 6 Z id <| .r [7] <| GA.int (i := 8) ((C.mem.length : Int) + 1) (by kernel_rfl) (by have q1 : SD _ ∧ NmD _ ∧ RowSm _ := (by assumption); have q2 := (addP_sd q1.1 q1.2.1 (by assumption)).nm.len; have q3 := q1.1.nm2; omega) <| GA.eqI (i := 9) (a := (((((addP C J O).1).mem).length) : Int)) (b := (C.mem.length : Int) + 1) (by kernel_rfl) (fun dL => ?_) (fun dL => ?_)
 · refine .r [10, 11, 12] <| .lb 13 W id <| .r [14] <| .lb 15 Z id <| .r [16] ?_
   have cr : C.mem.length < (((addP C J O).1).mem).length := (by have q1 : SD _ ∧ NmD _ ∧ RowSm _ := (by assumption); have q2 := law_rows q1.1 (by assumption); have q3 := congrArg List.length q2.2.1; simp at q3; omega)
   refine GA.idx (i := 17) C.mem.length (len := (((addP C J O).1).mem).length) (z := (C.mem.length : Int)) (sz := 3) (by kernel_rfl) (by have q1 : SD _ ∧ NmD _ ∧ RowSm _ := (by assumption); have q2 := law_rows q1.1 (by assumption); have q3 := congrArg List.length q2.2.1; simp at q3; omega) cr (ab.addr (Nat.zero_lt_of_lt cr)) ?_
   obtain ⟨cu, bO⟩ : ∃ y, (((addP C J O).1).mem)[C.mem.length]? = some y := ⟨_, List.getElem?_eq_getElem (by have q1 : SD _ ∧ NmD _ ∧ RowSm _ := (by assumption); have q2 := law_rows q1.1 (by assumption); have q3 := congrArg List.length q2.2.1; simp at q3; omega)⟩
   have fk := drop_at bO; have d8 := List.mem_of_getElem? bO
   obtain ⟨_, rfl, dM⟩ := ab.elem C.mem.length cu bO
   refine .lg 18 0 dM id <| .r [19] <| .ln 20 aa id <| .r [21] <| GA.smpEq (i := 22) (t := 51) (x := cu) (y := (⟨(addI C.idx J).2.1, (⟨O.t, O.v⟩ : Row)⟩ : Smp)) (by kernel_rfl) (by kernel_rfl) (by kernel_rfl) ?_
   cases fl : (cu == (⟨(addI C.idx J).2.1, (⟨O.t, O.v⟩ : Row)⟩ : Smp))
   · refine .r [23, 24, 25, 26, 27, 28, 29, 30] <| .d fun gL cv => ?_
     replace ⟨Z, ac, ae, af, ab, W, E⟩ := (se [aG, ak, ag, aj, ai] cv).g7 Z ac ae af ab W E
     clear cv
     exact .r 7 <| .d <| .rt Tryz.func4 Tryz.results4 (.bool false) ⟨(congrArg Value.bool (by have q1 : SD _ ∧ NmD _ ∧ RowSm _ := (by assumption); exfalso; first | exact rows_y q1.1 (by assumption) (by assumption) (by assumption) (by assumption) | exact rows_n q1.1 (by assumption) (by assumption) (by assumption) (by assumption) | (have q2 := law_rows q1.1 (by assumption); have q3 := q2.2.1; have q4 := q2.2.2.1; simp_all; done) | (simp_all; done))), E⟩
   refine .r [23, 24, 25] <| .lb 26 W id <| .r [27, 28] <| .lb 29 Z id <| .r [30] <| .d fun d9 cw => ?_
   replace ⟨ac, ae, af, ab, W, E⟩ := (se [aG, ak, ag, aj, ai] cw).g6 ac ae af ab W E
   clear cw
   refine .eq (((((addP C J O).1).parts).length) : Int) (C.parts.length : Int) (fun dN => ?_) (fun dN => .r 6 <| .d <| .rt Tryz.func4 Tryz.results4 (.bool false) ⟨(congrArg Value.bool (by have q1 : SD _ ∧ NmD _ ∧ RowSm _ := (by assumption); exfalso; first | exact rows_y q1.1 (by assumption) (by assumption) (by assumption) (by assumption) | exact rows_n q1.1 (by assumption) (by assumption) (by assumption) (by assumption) | (have q2 := law_rows q1.1 (by assumption); have q3 := q2.2.1; have q4 := q2.2.2.1; simp_all; done) | (simp_all; done))), E⟩)
   refine .r 2 <| .ln W <| .cl (c_impl_StoreOk (⟨(⟨(((addP C J O).1).idx).names, (((addP C J O).1).idx).posts⟩ : Idx), ((addP C J O).1).parts, ((addP C J O).1).mem⟩ : Sto) ac.ta ae.ta af.ta ab.ta (by have q1 : SD _ ∧ NmD _ ∧ RowSm _ := (by assumption); first | exact q1.1 | exact addP_sd q1.1 q1.2.1 (by assumption) | exact addP_sd (addP_sd q1.1 q1.2.1 (by assumption)) q1.2.1 (by assumption)) (w := d9) (F := all)) ?_
   rintro gM gN ⟨rfl, cx⟩
   replace E := (se [] cx).g1 E
   clear cx
   exact .r 2 <| .d <| .rt Tryz.func4 Tryz.results4 (.bool (storeOk (⟨(⟨(((addP C J O).1).idx).names, (((addP C J O).1).idx).posts⟩ : Idx), ((addP C J O).1).parts, ((addP C J O).1).mem⟩ : Sto))) ⟨(congrArg Value.bool (by first | (have q1 : SD _ ∧ NmD _ ∧ RowSm _ := (by assumption); have q2 := law_rows q1.1 (by assumption); exact q2.2.2.2.1) | (have q1 : SD _ ∧ NmD _ ∧ RowSm _ := (by assumption); have q2 := law_rows q1.1 (by assumption); simp_all; done) | (simp_all; done))), E⟩
 refine .r [10, 11, 12, 13, 14, 15, 16, 17, 18, 19, 20, 21, 22, 23, 24, 25, 26, 27, 28, 29, 30] <| .d fun gO cy => ?_
 replace E := (se [] cy).g1 E
 clear cy
 exact .r 7 <| .d <| .rt Tryz.func4 Tryz.results4 (.bool false) ⟨(congrArg Value.bool (by have q1 : SD _ ∧ NmD _ ∧ RowSm _ := (by assumption); exfalso; first | exact rows_y q1.1 (by assumption) (by assumption) (by assumption) (by assumption) | exact rows_n q1.1 (by assumption) (by assumption) (by assumption) (by assumption) | (have q2 := law_rows q1.1 (by assumption); have q3 := q2.2.1; have q4 := q2.2.2.1; simp_all; done) | (simp_all; done))), E⟩
end Go.Proofs.YtfnpaglcnmcnbaaGreat
