/- walks; squeezed -/
import Derived.Test.YtndljnhfkdhggaaGreatMod23
set_option linter.unusedVariables false
set_option linter.unusedSimpArgs false
namespace Go.Proofs.YtndljnhfkdhggaaGreat
set_option maxRecDepth 100000
set_option maxHeartbeats 4000000
theorem c_laws_FnAddTwo (code : List UInt8) (more : List UInt8) {w : World} {F : Nat → Prop} {a1 : Option Addr} {n1 c1 : Nat} (h1 : RepS w F a1 n1 c1 code) {a2 : Option Addr} {n2 c2 : Nat} (h2 : RepS w F a2 n2 c2 more)  : Calls Tryz.prog 3 [.slice a1 n1 c1, .slice a2 n2 c2].toArray w (rets fun rv w' => rv = .bool (true) ∧ Ext w w') := by
 refine goT Tryz.func3 ?_
 obtain ⟨rfl, gS, h1⟩ := h1.tp
 obtain ⟨rfl, gT, h2⟩ := h2.tp
 refine .s <| .g <| .r 1 <| .d <| .s <| .s <| .g <| .r 2 <| .bp ((code.length : Int) > 1048576) (fun ez => .r 5 <| .d <| .ct <| .s <| .g <| .r 1 <| .d <| .rt Tryz.func3 Tryz.results3 (.bool true) ⟨(congrArg Value.bool (by rfl)), (Chg.refl _ _)⟩) fun ez => .r 3 <| .bp ((more.length : Int) > 1048576) (fun eA => .r 1 <| .d <| .ct <| .s <| .g <| .r 1 <| .d <| .rt Tryz.func3 Tryz.results3 (.bool true) ⟨(congrArg Value.bool (by rfl)), (Chg.refl _ _)⟩) fun eA => .r 1 <| .d <| .cf <| .sk <| .s <| .g <| .r 1 <| .cl (c_spec_DrawStoreAdd code h1 (w := w) (F := nin (fo F w.heap.size) [])) ?_
 rintro jp jq ⟨⟨J, C, E, ⟨jr, js, jt, rfl, ⟨_, rfl, ⟨e8, ju, e9, fa, jv, fb, fc, jw, fd, fe, jx, ff, rfl, am, ao, aL, aM⟩⟩, ⟨jy, jz, rfl, al⟩, ⟨_, rfl, rfl⟩⟩, gU⟩, cA⟩
 have bi : ∀ q_ ∈ ([] : List Nat), q_ < w.heap.size := all_nil
 have bq : Gb w.heap.size w.heap.size := (Nat.le_refl _)
 have O := cA
 clear cA
 replace am := RepS.mixed' (M := []) am bi bq
 have gV := am.max
 replace ao := RepS.mixed' (M := []) ao bi bq
 have gW := ao.max
 replace aL := RepS.mixed' (M := []) aL bi bq
 have gX := aL.max
 replace aM := RepS.mixed' (M := []) aM bi bq
 have gY := aM.max
 replace al := RepS.mixed' (M := []) al bi bq
 have gZ := al.max
 clear bi
 have eB := am.len
 subst eB
 have eC := ao.len
 subst eC
 have eD := aL.len
 subst eD
 have eE := aM.len
 subst eE
 refine .r 4 <| .np 30 [.slice none 0 0, .slice none 0 0, .slice none 0 0, .slice none 0 0] fun ae jA b0 cB bU eF => ?_
 have g0 := O.cn b0
 replace ⟨am, ao, aL, aM, al, O⟩ := (sn [] cB b0).g6 am ao aL aM al O
 clear cB eF b0
 refine .np 33 [vI 0, vI 0] fun af jB bV cC b6 eG => ?_
 have hC := nb_new bV bU.lt
 have hD := O.cn bV
 replace ⟨am, ao, aL, aM, al, bU, O⟩ := (sn [ae] cC bV).g7 am ao aL aM al bU O
 clear cC eG bV
 refine .sc [.slice e8 J.idx.names.length e9, .slice fa J.idx.posts.length fb, .slice fc J.parts.length fd, .slice fe J.mem.length ff] bU fun jC cD Z eH => ?_
 replace ⟨am, ao, aL, aM, al, b6, O⟩ := (so [af, ae] cD).g7 am ao aL aM al b6 O
 clear cD eH
 refine .r 1 <| .sc [vI E.t, vI E.v] b6 fun eI cE W eJ => ?_
 replace ⟨am, ao, aL, aM, al, Z, O⟩ := (so [af, ae] cE).g7 am ao aL aM al Z O
 clear cE eJ
 refine .d <| .s <| .g <| .ln Z <| .r 1 <| .ln W <| .cl (c_spec_StoreAdd J C E am ao aL aM al (by have q1 : SD _ ∧ NmD _ ∧ RowSm _ := (by assumption); first | exact q1.1 | exact addP_sd q1.1 q1.2.1 (by assumption) | exact addP_sd (addP_sd q1.1 q1.2.1 (by assumption)) q1.2.1 (by assumption)) (by have q1 : SD _ ∧ NmD _ ∧ RowSm _ := (by assumption); exact NmD.sz q1.2.1) (w := eI) (F := nin (fo F w.heap.size) [af, ae])) ?_
 rintro jD jE ⟨⟨hE, rfl, ⟨_, rfl, ⟨fg, jF, fh, fi, jG, fj, eK, hH, eL, eM, hJ, eN, rfl, ax, ay, av, aw⟩⟩⟩, cF⟩
 have bb := al2 W.lt Z.lt
 have bj : Gb w.heap.size eI.heap.size := O.size
 replace ⟨am, ao, aL, aM, al, Z, W, O⟩ := (se [af, ae] cF).g8 am ao aL aM al Z W O
 clear cF
 replace ax := RepS.mixed' (M := [af, ae]) ax bb bj
 have fk := ax.max
 replace ay := RepS.mixed' (M := [af, ae]) ay bb bj
 have fl := ay.max
 replace av := RepS.mixed' (M := [af, ae]) av bb bj
 have fm := av.max
 replace aw := RepS.mixed' (M := [af, ae]) aw bb bj
 have fp := aw.max
 clear bb
 have dr := ax.len
 subst dr
 have dt := ay.len
 subst dt
 have du := av.len
 subst du
 have dv := aw.len
 subst dv
 refine .r 3 <| .np 30 [.slice none 0 0, .slice none 0 0, .slice none 0 0, .slice none 0 0] fun ab hN bc b7 dw dx => ?_
 have fq := nb_new bc Z.lt
 have ft := nb_new bc W.lt
 have fu := O.cn bc
 replace ⟨am, ao, aL, aM, al, Z, W, ax, ay, av, aw, O⟩ := (sn [af, ae] b7 bc).g12 am ao aL aM al Z W ax ay av aw O
 clear b7 dx bc
 refine .sc [.slice fg (((((addP J C E).1).idx).names).length) fh, .slice fi (((((addP J C E).1).idx).posts).length) fj, .slice eK ((((addP J C E).1).parts).length) eL, .slice eM ((((addP J C E).1).mem).length) eN] dw fun cG b8 V dy => ?_
 replace ⟨am, ao, aL, aM, al, Z, W, ax, ay, av, aw, O⟩ := (so [ab, af, ae] b8).g12 am ao aL aM al Z W ax ay av aw O
 clear b8 dy
 refine .r 1 <| .d <| .s <| .g <| .ln Z <| .r 1 <| .ln W <| .cl (c_impl_StoreAdd J C E am ao aL aM al (by have q1 : SD _ ∧ NmD _ ∧ RowSm _ := (by assumption); first | exact q1.1 | exact addP_sd q1.1 q1.2.1 (by assumption) | exact addP_sd (addP_sd q1.1 q1.2.1 (by assumption)) q1.2.1 (by assumption)) (by have q1 : SD _ ∧ NmD _ ∧ RowSm _ := (by assumption); exact q1.2.1) (w := cG) (F := nin (fo F w.heap.size) [ab, af, ae])) ?_
 rintro hO hP ⟨⟨hQ, rfl, ⟨_, rfl, ⟨cH, hV, cI, cJ, hW, cK, cL, hX, cM, cN, hY, cO, rfl, ag, ah, ai, aj⟩⟩⟩, b9⟩
 have bd := al3 V.lt W.lt Z.lt
 have bk : Gb w.heap.size cG.heap.size := O.size
 replace ⟨am, ao, al, Z, W, ax, ay, av, aw, V, O⟩ := (se [ab, af, ae] b9).g11 am ao al Z W ax ay av aw V O
 clear b9
 replace ag := RepS.mixed' (M := [ab, af, ae]) ag bd bk
 replace ah := RepS.mixed' (M := [ab, af, ae]) ah bd bk
 replace ai := RepS.mixed' (M := [ab, af, ae]) ai bd bk
 replace aj := RepS.mixed' (M := [ab, af, ae]) aj bd bk
 clear bd
 have dz := ag.len
 subst dz
 have dA := ah.len
 subst dA
 have dB := ai.len
 subst dB
 have dC := aj.len
 subst dC
 refine .r 2 ?_
 cases fv : (addP J C E).2
 · refine .r 1 <| .np 30 [.slice none 0 0, .slice none 0 0, .slice none 0 0, .slice none 0 0] fun ba hZ aW br dD dE => ?_
   have fw := nb_new aW Z.lt
   have fx := nb_new aW W.lt
   have fy := nb_new aW V.lt
   have fz := O.cn aW
   replace ⟨am, ao, al, Z, W, ax, ay, av, aw, V, ag, ah⟩ := (sn [ab, af, ae] br aW).g12 am ao al Z W ax ay av aw V ag ah
   replace ⟨ai, aj, O⟩ := (sn [ab, af, ae] br aW).g3 ai aj O
   clear br dE aW
   refine .sc [.slice cH (((((addP J C E).1).idx).names).length) cI, .slice cJ (((((addP J C E).1).idx).posts).length) cK, .slice cL ((((addP J C E).1).parts).length) cM, .slice cN ((((addP J C E).1).mem).length) cO] dD fun eO bt aX dF => ?_
   replace ⟨am, ao, al, Z, W, ax, ay, av, aw, V, ag, ah⟩ := (so [ba, ab, af, ae] bt).g12 am ao al Z W ax ay av aw V ag ah
   replace ⟨ai, aj, O⟩ := (so [ba, ab, af, ae] bt).g3 ai aj O
   clear bt dF
   refine .r 1 <| .d <| .s <| .s <| .g <| .r 2 <| RG.eqv (v := .bool false) (v' := .bool (false != false)) (by kernel_rfl) (by simp) <| .r 1 <| .ln aX <| .ln V <| .cl (c_laws_lyStore (⟨(⟨(((addP J C E).1).idx).names, (((addP J C E).1).idx).posts⟩ : Idx), ((addP J C E).1).parts, ((addP J C E).1).mem⟩ : Sto) (⟨(⟨(((addP J C E).1).idx).names, (((addP J C E).1).idx).posts⟩ : Idx), ((addP J C E).1).parts, ((addP J C E).1).mem⟩ : Sto) ag.ta ah.ta ai.ta aj.ta ax.ta ay.ta av.ta aw.ta (w := eO) (F := all)) ?_
   rintro ia cP ⟨rfl, bu⟩
   replace ⟨am, ao, al, Z, W, ax, ay, av, aw, V, ag, ah⟩ := (se [ba, ab, af, ae] bu).g12 am ao al Z W ax ay av aw V ag ah
   replace ⟨ai, aj, aX, O⟩ := (se [ba, ab, af, ae] bu).g4 ai aj aX O
   clear bu
   cases fA : ((⟨(⟨(((addP J C E).1).idx).names, (((addP J C E).1).idx).posts⟩ : Idx), ((addP J C E).1).parts, ((addP J C E).1).mem⟩ : Sto) == (⟨(⟨(((addP J C E).1).idx).names, (((addP J C E).1).idx).posts⟩ : Idx), ((addP J C E).1).parts, ((addP J C E).1).mem⟩ : Sto))
   · refine .r 6 <| .d <| .ct <| .s <| .g <| .r 2 <| RG.eqv (v := .bool true) (v' := .bool (false == false)) (by kernel_rfl) (by simp) <| .r 1 <| .ln aX <| .ln V <| .cl (c_laws_lyStore (⟨(⟨(((addP J C E).1).idx).names, (((addP J C E).1).idx).posts⟩ : Idx), ((addP J C E).1).parts, ((addP J C E).1).mem⟩ : Sto) (⟨(⟨(((addP J C E).1).idx).names, (((addP J C E).1).idx).posts⟩ : Idx), ((addP J C E).1).parts, ((addP J C E).1).mem⟩ : Sto) ag.ta ah.ta ai.ta aj.ta ax.ta ay.ta av.ta aw.ta (w := cP) (F := all)) ?_
     rintro ic ie ⟨rfl, bv⟩
     replace ⟨am, ao, al, Z, W, ax, ay, av, aw, V, ag, ah⟩ := (se [ba, ab, af, ae] bv).g12 am ao al Z W ax ay av aw V ag ah
     replace ⟨ai, aj, aX, O⟩ := (se [ba, ab, af, ae] bv).g4 ai aj aX O
     clear bv
     exact .r 2 <| .d <| .rt Tryz.func3 Tryz.results3 (.bool ((⟨(⟨(((addP J C E).1).idx).names, (((addP J C E).1).idx).posts⟩ : Idx), ((addP J C E).1).parts, ((addP J C E).1).mem⟩ : Sto) == (⟨(⟨(((addP J C E).1).idx).names, (((addP J C E).1).idx).posts⟩ : Idx), ((addP J C E).1).parts, ((addP J C E).1).mem⟩ : Sto))) ⟨(congrArg Value.bool (by first | (have q1 : SD _ ∧ NmD _ ∧ RowSm _ := (by assumption); have q2 := law_two q1.1 q1.2.1 (by assumption) (by assumption); have q3 := q2.2.2.2; simp_all; done) | (simp_all; done))), O⟩
   refine .r 6 <| .d <| .ct <| .s <| .g <| .r 2 <| RG.eqv (v := .bool true) (v' := .bool (false == false)) (by kernel_rfl) (by simp) <| .r 1 <| .ln aX <| .ln V <| .cl (c_laws_lyStore (⟨(⟨(((addP J C E).1).idx).names, (((addP J C E).1).idx).posts⟩ : Idx), ((addP J C E).1).parts, ((addP J C E).1).mem⟩ : Sto) (⟨(⟨(((addP J C E).1).idx).names, (((addP J C E).1).idx).posts⟩ : Idx), ((addP J C E).1).parts, ((addP J C E).1).mem⟩ : Sto) ag.ta ah.ta ai.ta aj.ta ax.ta ay.ta av.ta aw.ta (w := cP) (F := all)) ?_
   rintro ig ii ⟨rfl, bw⟩
   replace ⟨am, ao, al, Z, W, ax, ay, av, aw, V, ag, ah⟩ := (se [ba, ab, af, ae] bw).g12 am ao al Z W ax ay av aw V ag ah
   replace ⟨ai, aj, O⟩ := (se [ba, ab, af, ae] bw).g3 ai aj O
   clear bw
   exact .r 2 <| .d <| .rt Tryz.func3 Tryz.results3 (.bool ((⟨(⟨(((addP J C E).1).idx).names, (((addP J C E).1).idx).posts⟩ : Idx), ((addP J C E).1).parts, ((addP J C E).1).mem⟩ : Sto) == (⟨(⟨(((addP J C E).1).idx).names, (((addP J C E).1).idx).posts⟩ : Idx), ((addP J C E).1).parts, ((addP J C E).1).mem⟩ : Sto))) ⟨(congrArg Value.bool (by first | (have q1 : SD _ ∧ NmD _ ∧ RowSm _ := (by assumption); have q2 := law_two q1.1 q1.2.1 (by assumption) (by assumption); have q3 := q2.2.2.2; simp_all; done) | (simp_all; done))), O⟩
 refine .r 1 <| .np 30 [.slice none 0 0, .slice none 0 0, .slice none 0 0, .slice none 0 0] fun ac ij aY bz dG dH => ?_
 have fB := nb_new aY Z.lt
 have fC := nb_new aY W.lt
 have fD := nb_new aY V.lt
 have fE := O.cn aY
 replace ⟨am, ao, al, Z, W, ax, ay, av, aw, V, ag, ah⟩ := (sn [ab, af, ae] bz aY).g12 am ao al Z W ax ay av aw V ag ah
 replace ⟨ai, aj, O⟩ := (sn [ab, af, ae] bz aY).g3 ai aj O
 clear bz dH aY
 refine .sc [.slice cH (((((addP J C E).1).idx).names).length) cI, .slice cJ (((((addP J C E).1).idx).posts).length) cK, .slice cL ((((addP J C E).1).parts).length) cM, .slice cN ((((addP J C E).1).mem).length) cO] dG fun eP bA aa dI => ?_
 replace ⟨am, ao, al, Z, W, ax, ay, av, aw, V, ag, ah⟩ := (so [ac, ab, af, ae] bA).g12 am ao al Z W ax ay av aw V ag ah
 replace ⟨ai, aj, O⟩ := (so [ac, ab, af, ae] bA).g3 ai aj O
 clear bA dI
 refine .r 1 <| .d <| .s <| .s <| .g <| .r 2 <| RG.eqv (v := .bool false) (v' := .bool (true != true)) (by kernel_rfl) (by simp) <| .r 1 <| .ln aa <| .ln V <| .cl (c_laws_lyStore (⟨(⟨(((addP J C E).1).idx).names, (((addP J C E).1).idx).posts⟩ : Idx), ((addP J C E).1).parts, ((addP J C E).1).mem⟩ : Sto) (⟨(⟨(((addP J C E).1).idx).names, (((addP J C E).1).idx).posts⟩ : Idx), ((addP J C E).1).parts, ((addP J C E).1).mem⟩ : Sto) ag.ta ah.ta ai.ta aj.ta ax.ta ay.ta av.ta aw.ta (w := eP) (F := all)) ?_
 rintro ik eQ ⟨rfl, bB⟩
 replace ⟨am, ao, al, Z, W, ax, ay, av, aw, V, ag, ah⟩ := (se [ac, ab, af, ae] bB).g12 am ao al Z W ax ay av aw V ag ah
 replace ⟨ai, aj, aa, O⟩ := (se [ac, ab, af, ae] bB).g4 ai aj aa O
 clear bB
 cases fF : ((⟨(⟨(((addP J C E).1).idx).names, (((addP J C E).1).idx).posts⟩ : Idx), ((addP J C E).1).parts, ((addP J C E).1).mem⟩ : Sto) == (⟨(⟨(((addP J C E).1).idx).names, (((addP J C E).1).idx).posts⟩ : Idx), ((addP J C E).1).parts, ((addP J C E).1).mem⟩ : Sto))
 · refine .r 6 <| .d <| .ct <| .s <| .g <| .r 2 <| RG.eqv (v := .bool true) (v' := .bool (true == true)) (by kernel_rfl) (by simp) <| .r 1 <| .ln aa <| .ln V <| .cl (c_laws_lyStore (⟨(⟨(((addP J C E).1).idx).names, (((addP J C E).1).idx).posts⟩ : Idx), ((addP J C E).1).parts, ((addP J C E).1).mem⟩ : Sto) (⟨(⟨(((addP J C E).1).idx).names, (((addP J C E).1).idx).posts⟩ : Idx), ((addP J C E).1).parts, ((addP J C E).1).mem⟩ : Sto) ag.ta ah.ta ai.ta aj.ta ax.ta ay.ta av.ta aw.ta (w := eQ) (F := all)) ?_
   rintro il im ⟨rfl, cd⟩
   replace ⟨am, ao, al, Z, W, V, ag, ah, ai, aj, aa, O⟩ := (se [ac, ab, af, ae] cd).g12 am ao al Z W V ag ah ai aj aa O
   clear cd
   exact .r 2 <| .d <| .rt Tryz.func3 Tryz.results3 (.bool ((⟨(⟨(((addP J C E).1).idx).names, (((addP J C E).1).idx).posts⟩ : Idx), ((addP J C E).1).parts, ((addP J C E).1).mem⟩ : Sto) == (⟨(⟨(((addP J C E).1).idx).names, (((addP J C E).1).idx).posts⟩ : Idx), ((addP J C E).1).parts, ((addP J C E).1).mem⟩ : Sto))) ⟨(congrArg Value.bool (by first | (have q1 : SD _ ∧ NmD _ ∧ RowSm _ := (by assumption); have q2 := law_two q1.1 q1.2.1 (by assumption) (by assumption); have q3 := q2.2.2.2; simp_all; done) | (simp_all; done))), O⟩
 refine .r 6 <| .d <| .cf <| .sk <| .s <| .g <| .r 4 <| .np 33 [vI 0, vI 0] fun ak io aZ ce dJ dK => ?_
 have fG := nb_new aZ Z.lt
 have fH := nb_new aZ W.lt
 have fI := nb_new aZ V.lt
 have fJ := nb_new aZ aa.lt
 have fK := O.cn aZ
 replace ⟨am, ao, al, Z, W, V, ag, ah, ai, aj, aa, O⟩ := (sn [ac, ab, af, ae] ce aZ).g12 am ao al Z W V ag ah ai aj aa O
 clear ce dK aZ
 refine .sc [vI (Int.tmod (more.length : Int) 40), vI 11] dJ fun cQ cg aq dL => ?_
 replace ⟨am, ao, al, Z, W, V, ag, ah, ai, aj, aa, O⟩ := (so [ak, ac, ab, af, ae] cg).g12 am ao al Z W V ag ah ai aj aa O
 clear cg dL
 refine .d <| .s <| .s <| .g <| .r 3 <| .eq (Int.tmod (more.length : Int) 3) 0 (fun dM => ?_) (fun dM => ?_)
 · refine .d <| .ct <| .g <| .r 1 <| .lb W <| .r 1 <| .ss 0 (vI E.t) aq fun cR ci ar dN => ?_
   replace ⟨am, ao, al, Z, W, V, ag, ah, ai, aj, aa, O⟩ := (so [ak, ac, ab, af, ae] ci).g12 am ao al Z W V ag ah ai aj aa O
   clear ci dN
   refine .d <| .s <| .g <| .ln aa <| .r 1 <| .ln ar <| .cl (c_impl_StoreAdd (⟨(⟨(((addP J C E).1).idx).names, (((addP J C E).1).idx).posts⟩ : Idx), ((addP J C E).1).parts, ((addP J C E).1).mem⟩ : Sto) C (⟨E.t, 11⟩ : Row) ag ah ai aj al (by have q1 : SD _ ∧ NmD _ ∧ RowSm _ := (by assumption); first | exact q1.1 | exact addP_sd q1.1 q1.2.1 (by assumption) | exact addP_sd (addP_sd q1.1 q1.2.1 (by assumption)) q1.2.1 (by assumption)) (by have q1 : SD _ ∧ NmD _ ∧ RowSm _ := (by assumption); exact q1.2.1) (w := cR) (F := nin (fo F w.heap.size) [ak, ac, ab, af, ae])) ?_
   rintro ip iq ⟨⟨ir, rfl, ⟨_, rfl, ⟨cS, iu, cT, cU, iw, cV, cW, iy, cX, cY, iz, cZ, rfl, az, aA, aB, aC⟩⟩⟩, bC⟩
   have bg := al5 ar.lt aa.lt V.lt W.lt Z.lt
   have bn : Gb w.heap.size cR.heap.size := O.size
   replace ⟨am, ao, al, Z, W, V, ag, ah, ai, aj, aa, ar⟩ := (se [ak, ac, ab, af, ae] bC).g12 am ao al Z W V ag ah ai aj aa ar
   replace O := (se [ak, ac, ab, af, ae] bC).g1 O
   clear bC
   replace az := RepS.mixed' (M := [ak, ac, ab, af, ae]) az bg bn
   have fL := az.max
   replace aA := RepS.mixed' (M := [ak, ac, ab, af, ae]) aA bg bn
   have fM := aA.max
   replace aB := RepS.mixed' (M := [ak, ac, ab, af, ae]) aB bg bn
   have fN := aB.max
   replace aC := RepS.mixed' (M := [ak, ac, ab, af, ae]) aC bg bn
   have fO := aC.max
   clear bg
   have dO := az.len
   subst dO
   have dP := aA.len
   subst dP
   have dQ := aB.len
   subst dQ
   have dR := aC.len
   subst dR
   refine .r 2 ?_
   cases fP : (addP (⟨(⟨(((addP J C E).1).idx).names, (((addP J C E).1).idx).posts⟩ : Idx), ((addP J C E).1).parts, ((addP J C E).1).mem⟩ : Sto) C (⟨E.t, 11⟩ : Row)).2
   · refine .r 1 <| .np 30 [.slice none 0 0, .slice none 0 0, .slice none 0 0, .slice none 0 0] fun c7 iA aN bD dS dT => ?_
     have fQ := nb_new aN Z.lt
     have fR := nb_new aN W.lt
     have fS := nb_new aN V.lt
     have fT := nb_new aN aa.lt
     have fU := nb_new aN ar.lt
     have fV := O.cn aN
     replace ⟨am, ao, al, Z, W, V, ag, ah, ai, aj, aa, ar⟩ := (sn [ak, ac, ab, af, ae] bD aN).g12 am ao al Z W V ag ah ai aj aa ar
     replace ⟨az, aA, aB, aC, O⟩ := (sn [ak, ac, ab, af, ae] bD aN).g5 az aA aB aC O
     clear bD dT aN
     refine .sc [.slice cS (((((addP (⟨(⟨(((addP J C E).1).idx).names, (((addP J C E).1).idx).posts⟩ : Idx), ((addP J C E).1).parts, ((addP J C E).1).mem⟩ : Sto) C (⟨E.t, 11⟩ : Row)).1).idx).names).length) cT, .slice cU (((((addP (⟨(⟨(((addP J C E).1).idx).names, (((addP J C E).1).idx).posts⟩ : Idx), ((addP J C E).1).parts, ((addP J C E).1).mem⟩ : Sto) C (⟨E.t, 11⟩ : Row)).1).idx).posts).length) cV, .slice cW ((((addP (⟨(⟨(((addP J C E).1).idx).names, (((addP J C E).1).idx).posts⟩ : Idx), ((addP J C E).1).parts, ((addP J C E).1).mem⟩ : Sto) C (⟨E.t, 11⟩ : Row)).1).parts).length) cX, .slice cY ((((addP (⟨(⟨(((addP J C E).1).idx).names, (((addP J C E).1).idx).posts⟩ : Idx), ((addP J C E).1).parts, ((addP J C E).1).mem⟩ : Sto) C (⟨E.t, 11⟩ : Row)).1).mem).length) cZ] dS fun iB bE fW dU => ?_
     replace ⟨am, ao, al, Z, W, V, ag, ah, ai, aj, aa, ar⟩ := (so [c7, ak, ac, ab, af, ae] bE).g12 am ao al Z W V ag ah ai aj aa ar
     replace ⟨az, aA, aB, aC, O⟩ := (so [c7, ak, ac, ab, af, ae] bE).g5 az aA aB aC O
     clear bE dU
     exact .r 1 <| .d <| .s <| .s <| .g <| .r 2 <| .d <| .ct <| .s <| .g <| .r 1 <| .d <| .rt Tryz.func3 Tryz.results3 (.bool true) ⟨(congrArg Value.bool (by rfl)), O⟩
   refine .r 1 <| .np 30 [.slice none 0 0, .slice none 0 0, .slice none 0 0, .slice none 0 0] fun aD iC aO bF dV dW => ?_
   have fX := nb_new aO Z.lt
   have fY := nb_new aO W.lt
   have fZ := nb_new aO V.lt
   have f0 := nb_new aO aa.lt
   have f3 := nb_new aO ar.lt
   have f4 := O.cn aO
   replace ⟨am, ao, al, Z, W, V, ag, ah, ai, aj, aa, ar⟩ := (sn [ak, ac, ab, af, ae] bF aO).g12 am ao al Z W V ag ah ai aj aa ar
   replace ⟨az, aA, aB, aC, O⟩ := (sn [ak, ac, ab, af, ae] bF aO).g5 az aA aB aC O
   clear bF dW aO
   refine .sc [.slice cS (((((addP (⟨(⟨(((addP J C E).1).idx).names, (((addP J C E).1).idx).posts⟩ : Idx), ((addP J C E).1).parts, ((addP J C E).1).mem⟩ : Sto) C (⟨E.t, 11⟩ : Row)).1).idx).names).length) cT, .slice cU (((((addP (⟨(⟨(((addP J C E).1).idx).names, (((addP J C E).1).idx).posts⟩ : Idx), ((addP J C E).1).parts, ((addP J C E).1).mem⟩ : Sto) C (⟨E.t, 11⟩ : Row)).1).idx).posts).length) cV, .slice cW ((((addP (⟨(⟨(((addP J C E).1).idx).names, (((addP J C E).1).idx).posts⟩ : Idx), ((addP J C E).1).parts, ((addP J C E).1).mem⟩ : Sto) C (⟨E.t, 11⟩ : Row)).1).parts).length) cX, .slice cY ((((addP (⟨(⟨(((addP J C E).1).idx).names, (((addP J C E).1).idx).posts⟩ : Idx), ((addP J C E).1).parts, ((addP J C E).1).mem⟩ : Sto) C (⟨E.t, 11⟩ : Row)).1).mem).length) cZ] dV fun c8 bG aI dX => ?_
   replace ⟨am, ao, al, Z, W, V, ag, ah, ai, aj, aa, ar⟩ := (so [aD, ak, ac, ab, af, ae] bG).g12 am ao al Z W V ag ah ai aj aa ar
   replace ⟨az, aA, aB, aC, O⟩ := (so [aD, ak, ac, ab, af, ae] bG).g5 az aA aB aC O
   clear bG dX
   refine .r 1 <| .d <| .s <| .s <| .g <| .r 2 <| .d <| .cf <| .sk <| .s <| .g <| .r 1 <| .ln Z <| .r 1 <| .cl (c_impl_IndexAdd J.idx C am ao al (by have q1 : SD _ ∧ NmD _ ∧ RowSm _ := (by assumption); exact q1.1.ix) (by have q1 : SD _ ∧ NmD _ ∧ RowSm _ := (by assumption); exact q1.1.nd) (by have q1 : SD _ ∧ NmD _ ∧ RowSm _ := (by assumption); exact q1.2.1) (w := c8) (F := nin (fo F w.heap.size) [aD, ak, ac, ab, af, ae])) ?_
   rintro iD iE ⟨⟨iF, rfl, ⟨_, rfl, ⟨eR, iG, eS, eT, iH, eU, rfl, bW, bX⟩⟩⟩, bH⟩
   have bI := al6 aI.lt ar.lt aa.lt V.lt W.lt Z.lt
   have cj : Gb w.heap.size c8.heap.size := O.size
   replace ⟨am, ao, al, Z, W, V, ag, ah, ai, aj, aa, ar⟩ := (se [aD, ak, ac, ab, af, ae] bH).g12 am ao al Z W V ag ah ai aj aa ar
   replace ⟨az, aA, aB, aC, aI, O⟩ := (se [aD, ak, ac, ab, af, ae] bH).g6 az aA aB aC aI O
   clear bH
   replace bW := RepS.mixed' (M := [aD, ak, ac, ab, af, ae]) bW bI cj
   have f5 := bW.max
   replace bX := RepS.mixed' (M := [aD, ak, ac, ab, af, ae]) bX bI cj
   have f6 := bX.max
   clear bI
   have dY := bW.len
   subst dY
   have dZ := bX.len
   subst dZ
   refine .r 4 <| .np 26 [.slice none 0 0, .slice none 0 0] fun aU iI aJ bJ d0 d3 => ?_
   have f7 := nb_new aJ Z.lt
   have f8 := nb_new aJ W.lt
   have f9 := nb_new aJ V.lt
   have ga := nb_new aJ aa.lt
   have gb := nb_new aJ ar.lt
   have gf := nb_new aJ aI.lt
   have gg := O.cn aJ
   replace ⟨am, ao, al, Z, W, V, ag, ah, ai, aj, aa, ar⟩ := (sn [aD, ak, ac, ab, af, ae] bJ aJ).g12 am ao al Z W V ag ah ai aj aa ar
   replace ⟨az, aA, aB, aC, aI, O⟩ := (sn [aD, ak, ac, ab, af, ae] bJ aJ).g6 az aA aB aC aI O
   clear bJ d3 aJ
   refine .sc [.slice eR ((((addI J.idx C).1).names).length) eS, .slice eT ((((addI J.idx C).1).posts).length) eU] d0 fun c9 bK d4 d5 => ?_
   replace ⟨am, ao, al, Z, W, V, ag, ah, ai, aj, aa, ar⟩ := (so [aU, aD, ak, ac, ab, af, ae] bK).g12 am ao al Z W V ag ah ai aj aa ar
   replace ⟨az, aA, aB, aC, aI, O⟩ := (so [aU, aD, ak, ac, ab, af, ae] bK).g6 az aA aB aC aI O
   clear bK d5
   refine .r 2 <| .d <| .s <| .g <| .ln aI <| .r 1 <| .cl (c_impl_StoreRows (⟨(⟨(((addP (⟨(⟨(((addP J C E).1).idx).names, (((addP J C E).1).idx).posts⟩ : Idx), ((addP J C E).1).parts, ((addP J C E).1).mem⟩ : Sto) C (⟨E.t, 11⟩ : Row)).1).idx).names, (((addP (⟨(⟨(((addP J C E).1).idx).names, (((addP J C E).1).idx).posts⟩ : Idx), ((addP J C E).1).parts, ((addP J C E).1).mem⟩ : Sto) C (⟨E.t, 11⟩ : Row)).1).idx).posts⟩ : Idx), ((addP (⟨(⟨(((addP J C E).1).idx).names, (((addP J C E).1).idx).posts⟩ : Idx), ((addP J C E).1).parts, ((addP J C E).1).mem⟩ : Sto) C (⟨E.t, 11⟩ : Row)).1).parts, ((addP (⟨(⟨(((addP J C E).1).idx).names, (((addP J C E).1).idx).posts⟩ : Idx), ((addP J C E).1).parts, ((addP J C E).1).mem⟩ : Sto) C (⟨E.t, 11⟩ : Row)).1).mem⟩ : Sto) ((addI J.idx C).2.1) az.ta aA.ta aB.ta aC.ta (by have q1 : SD _ ∧ NmD _ ∧ RowSm _ := (by assumption); first | exact q1.1 | exact addP_sd q1.1 q1.2.1 (by assumption) | exact addP_sd (addP_sd q1.1 q1.2.1 (by assumption)) q1.2.1 (by assumption)) (w := c9) (F := all)) ?_
   rintro iJ eV ⟨⟨iK, iL, rfl, aS⟩, bL⟩
   have ck := al7 d4.lt aI.lt ar.lt aa.lt V.lt W.lt Z.lt
   have d6 : Gb w.heap.size c9.heap.size := O.size
   replace ⟨am, ao, al, Z, W, V, ag, ah, ai, aj, aa, ar⟩ := (se [aU, aD, ak, ac, ab, af, ae] bL).g12 am ao al Z W V ag ah ai aj aa ar
   replace O := (se [aU, aD, ak, ac, ab, af, ae] bL).g1 O
   clear bL
   have aS := aS.fr ck d6
   replace aS := aS.base (G' := fo F w.heap.size) (fun _ _ h => .inr h)
   have gh := aS.max
   clear ck
   refine .r 1 <| .d <| .s <| .g <| .r 2 <| .lb ar <| .cl (c_laws_lyAt (rowsI (⟨(⟨(((addP (⟨(⟨(((addP J C E).1).idx).names, (((addP J C E).1).idx).posts⟩ : Idx), ((addP J C E).1).parts, ((addP J C E).1).mem⟩ : Sto) C (⟨E.t, 11⟩ : Row)).1).idx).names, (((addP (⟨(⟨(((addP J C E).1).idx).names, (((addP J C E).1).idx).posts⟩ : Idx), ((addP J C E).1).parts, ((addP J C E).1).mem⟩ : Sto) C (⟨E.t, 11⟩ : Row)).1).idx).posts⟩ : Idx), ((addP (⟨(⟨(((addP J C E).1).idx).names, (((addP J C E).1).idx).posts⟩ : Idx), ((addP J C E).1).parts, ((addP J C E).1).mem⟩ : Sto) C (⟨E.t, 11⟩ : Row)).1).parts, ((addP (⟨(⟨(((addP J C E).1).idx).names, (((addP J C E).1).idx).posts⟩ : Idx), ((addP J C E).1).parts, ((addP J C E).1).mem⟩ : Sto) C (⟨E.t, 11⟩ : Row)).1).mem⟩ : Sto) ((addI J.idx C).2.1)) E.t aS.ta (w := eV) (F := all)) ?_
   rintro iM da ⟨rfl, bM⟩
   replace ⟨am, ao, al, Z, W, V, ag, ah, ai, aj, aa, ar⟩ := (se [aU, aD, ak, ac, ab, af, ae] bM).g12 am ao al Z W V ag ah ai aj aa ar
   replace ⟨aS, O⟩ := (se [aU, aD, ak, ac, ab, af, ae] bM).g2 aS O
   clear bM
   refine .r 2 ?_
   cases gi : (atB E.t (rowsI (⟨(⟨(((addP (⟨(⟨(((addP J C E).1).idx).names, (((addP J C E).1).idx).posts⟩ : Idx), ((addP J C E).1).parts, ((addP J C E).1).mem⟩ : Sto) C (⟨E.t, 11⟩ : Row)).1).idx).names, (((addP (⟨(⟨(((addP J C E).1).idx).names, (((addP J C E).1).idx).posts⟩ : Idx), ((addP J C E).1).parts, ((addP J C E).1).mem⟩ : Sto) C (⟨E.t, 11⟩ : Row)).1).idx).posts⟩ : Idx), ((addP (⟨(⟨(((addP J C E).1).idx).names, (((addP J C E).1).idx).posts⟩ : Idx), ((addP J C E).1).parts, ((addP J C E).1).mem⟩ : Sto) C (⟨E.t, 11⟩ : Row)).1).parts, ((addP (⟨(⟨(((addP J C E).1).idx).names, (((addP J C E).1).idx).posts⟩ : Idx), ((addP J C E).1).parts, ((addP J C E).1).mem⟩ : Sto) C (⟨E.t, 11⟩ : Row)).1).mem⟩ : Sto) ((addI J.idx C).2.1)))
   · refine .r 3 <| .d <| .s <| .g <| .r 2 <| .lb W <| .cl (c_laws_lyAt (rowsI (⟨(⟨(((addP (⟨(⟨(((addP J C E).1).idx).names, (((addP J C E).1).idx).posts⟩ : Idx), ((addP J C E).1).parts, ((addP J C E).1).mem⟩ : Sto) C (⟨E.t, 11⟩ : Row)).1).idx).names, (((addP (⟨(⟨(((addP J C E).1).idx).names, (((addP J C E).1).idx).posts⟩ : Idx), ((addP J C E).1).parts, ((addP J C E).1).mem⟩ : Sto) C (⟨E.t, 11⟩ : Row)).1).idx).posts⟩ : Idx), ((addP (⟨(⟨(((addP J C E).1).idx).names, (((addP J C E).1).idx).posts⟩ : Idx), ((addP J C E).1).parts, ((addP J C E).1).mem⟩ : Sto) C (⟨E.t, 11⟩ : Row)).1).parts, ((addP (⟨(⟨(((addP J C E).1).idx).names, (((addP J C E).1).idx).posts⟩ : Idx), ((addP J C E).1).parts, ((addP J C E).1).mem⟩ : Sto) C (⟨E.t, 11⟩ : Row)).1).mem⟩ : Sto) ((addI J.idx C).2.1)) E.t aS.ta (w := da) (F := all)) ?_
     rintro iN iO ⟨rfl, bN⟩
     replace ⟨am, ao, al, Z, W, V, ag, ah, ai, aj, aa, ar⟩ := (se [aU, aD, ak, ac, ab, af, ae] bN).g12 am ao al Z W V ag ah ai aj aa ar
     replace ⟨aS, O⟩ := (se [aU, aD, ak, ac, ab, af, ae] bN).g2 aS O
     clear bN
     refine .r 2 ?_
     cases gj : (atB E.t (rowsI (⟨(⟨(((addP (⟨(⟨(((addP J C E).1).idx).names, (((addP J C E).1).idx).posts⟩ : Idx), ((addP J C E).1).parts, ((addP J C E).1).mem⟩ : Sto) C (⟨E.t, 11⟩ : Row)).1).idx).names, (((addP (⟨(⟨(((addP J C E).1).idx).names, (((addP J C E).1).idx).posts⟩ : Idx), ((addP J C E).1).parts, ((addP J C E).1).mem⟩ : Sto) C (⟨E.t, 11⟩ : Row)).1).idx).posts⟩ : Idx), ((addP (⟨(⟨(((addP J C E).1).idx).names, (((addP J C E).1).idx).posts⟩ : Idx), ((addP J C E).1).parts, ((addP J C E).1).mem⟩ : Sto) C (⟨E.t, 11⟩ : Row)).1).parts, ((addP (⟨(⟨(((addP J C E).1).idx).names, (((addP J C E).1).idx).posts⟩ : Idx), ((addP J C E).1).parts, ((addP J C E).1).mem⟩ : Sto) C (⟨E.t, 11⟩ : Row)).1).mem⟩ : Sto) ((addI J.idx C).2.1)))
     · exact .r 3 <| .d <| .s <| .g <| .r 22 <| .d <| .rt Tryz.func3 Tryz.results3 (.bool false) ⟨(congrArg Value.bool (by have q1 : SD _ ∧ NmD _ ∧ RowSm _ := (by assumption); exfalso; first | (have q2 := law_two q1.1 q1.2.1 (by assumption) (by assumption); simp_all; done) | simp_all)), O⟩
     exact .r 3 <| .d <| .s <| .g <| .r 22 <| .d <| .rt Tryz.func3 Tryz.results3 (.bool false) ⟨(congrArg Value.bool (by have q1 : SD _ ∧ NmD _ ∧ RowSm _ := (by assumption); exfalso; first | (have q2 := law_two q1.1 q1.2.1 (by assumption) (by assumption); simp_all; done) | simp_all)), O⟩
   refine .r 3 <| .d <| .s <| .g <| .r 2 <| .lb W <| .cl (c_laws_lyAt (rowsI (⟨(⟨(((addP (⟨(⟨(((addP J C E).1).idx).names, (((addP J C E).1).idx).posts⟩ : Idx), ((addP J C E).1).parts, ((addP J C E).1).mem⟩ : Sto) C (⟨E.t, 11⟩ : Row)).1).idx).names, (((addP (⟨(⟨(((addP J C E).1).idx).names, (((addP J C E).1).idx).posts⟩ : Idx), ((addP J C E).1).parts, ((addP J C E).1).mem⟩ : Sto) C (⟨E.t, 11⟩ : Row)).1).idx).posts⟩ : Idx), ((addP (⟨(⟨(((addP J C E).1).idx).names, (((addP J C E).1).idx).posts⟩ : Idx), ((addP J C E).1).parts, ((addP J C E).1).mem⟩ : Sto) C (⟨E.t, 11⟩ : Row)).1).parts, ((addP (⟨(⟨(((addP J C E).1).idx).names, (((addP J C E).1).idx).posts⟩ : Idx), ((addP J C E).1).parts, ((addP J C E).1).mem⟩ : Sto) C (⟨E.t, 11⟩ : Row)).1).mem⟩ : Sto) ((addI J.idx C).2.1)) E.t aS.ta (w := da) (F := all)) ?_
   rintro iP iQ ⟨rfl, bO⟩
   replace ⟨am, ao, al, Z, W, V, ag, ah, ai, aj, aa, ar⟩ := (se [aU, aD, ak, ac, ab, af, ae] bO).g12 am ao al Z W V ag ah ai aj aa ar
   replace O := (se [aU, aD, ak, ac, ab, af, ae] bO).g1 O
   clear bO
   refine .r 2 ?_
   cases gk : (atB E.t (rowsI (⟨(⟨(((addP (⟨(⟨(((addP J C E).1).idx).names, (((addP J C E).1).idx).posts⟩ : Idx), ((addP J C E).1).parts, ((addP J C E).1).mem⟩ : Sto) C (⟨E.t, 11⟩ : Row)).1).idx).names, (((addP (⟨(⟨(((addP J C E).1).idx).names, (((addP J C E).1).idx).posts⟩ : Idx), ((addP J C E).1).parts, ((addP J C E).1).mem⟩ : Sto) C (⟨E.t, 11⟩ : Row)).1).idx).posts⟩ : Idx), ((addP (⟨(⟨(((addP J C E).1).idx).names, (((addP J C E).1).idx).posts⟩ : Idx), ((addP J C E).1).parts, ((addP J C E).1).mem⟩ : Sto) C (⟨E.t, 11⟩ : Row)).1).parts, ((addP (⟨(⟨(((addP J C E).1).idx).names, (((addP J C E).1).idx).posts⟩ : Idx), ((addP J C E).1).parts, ((addP J C E).1).mem⟩ : Sto) C (⟨E.t, 11⟩ : Row)).1).mem⟩ : Sto) ((addI J.idx C).2.1)))
   · exact .r 3 <| .d <| .s <| .g <| .r 3 <| .eq (atV E.t (rowsI (⟨(⟨(((addP (⟨(⟨(((addP J C E).1).idx).names, (((addP J C E).1).idx).posts⟩ : Idx), ((addP J C E).1).parts, ((addP J C E).1).mem⟩ : Sto) C (⟨E.t, 11⟩ : Row)).1).idx).names, (((addP (⟨(⟨(((addP J C E).1).idx).names, (((addP J C E).1).idx).posts⟩ : Idx), ((addP J C E).1).parts, ((addP J C E).1).mem⟩ : Sto) C (⟨E.t, 11⟩ : Row)).1).idx).posts⟩ : Idx), ((addP (⟨(⟨(((addP J C E).1).idx).names, (((addP J C E).1).idx).posts⟩ : Idx), ((addP J C E).1).parts, ((addP J C E).1).mem⟩ : Sto) C (⟨E.t, 11⟩ : Row)).1).parts, ((addP (⟨(⟨(((addP J C E).1).idx).names, (((addP J C E).1).idx).posts⟩ : Idx), ((addP J C E).1).parts, ((addP J C E).1).mem⟩ : Sto) C (⟨E.t, 11⟩ : Row)).1).mem⟩ : Sto) ((addI J.idx C).2.1))) 11 (fun d7 => .r 18 <| .d <| .rt Tryz.func3 Tryz.results3 (.bool false) ⟨(congrArg Value.bool (by have q1 : SD _ ∧ NmD _ ∧ RowSm _ := (by assumption); exfalso; first | (have q2 := law_two q1.1 q1.2.1 (by assumption) (by assumption); simp_all; done) | simp_all)), O⟩) fun d7 => .r 18 <| .d <| .rt Tryz.func3 Tryz.results3 (.bool false) ⟨(congrArg Value.bool (by have q1 : SD _ ∧ NmD _ ∧ RowSm _ := (by assumption); exfalso; first | (have q2 := law_two q1.1 q1.2.1 (by assumption) (by assumption); simp_all; done) | simp_all)), O⟩
   exact .r 3 <| .d <| .s <| .g <| .r 3 <| .eq (atV E.t (rowsI (⟨(⟨(((addP (⟨(⟨(((addP J C E).1).idx).names, (((addP J C E).1).idx).posts⟩ : Idx), ((addP J C E).1).parts, ((addP J C E).1).mem⟩ : Sto) C (⟨E.t, 11⟩ : Row)).1).idx).names, (((addP (⟨(⟨(((addP J C E).1).idx).names, (((addP J C E).1).idx).posts⟩ : Idx), ((addP J C E).1).parts, ((addP J C E).1).mem⟩ : Sto) C (⟨E.t, 11⟩ : Row)).1).idx).posts⟩ : Idx), ((addP (⟨(⟨(((addP J C E).1).idx).names, (((addP J C E).1).idx).posts⟩ : Idx), ((addP J C E).1).parts, ((addP J C E).1).mem⟩ : Sto) C (⟨E.t, 11⟩ : Row)).1).parts, ((addP (⟨(⟨(((addP J C E).1).idx).names, (((addP J C E).1).idx).posts⟩ : Idx), ((addP J C E).1).parts, ((addP J C E).1).mem⟩ : Sto) C (⟨E.t, 11⟩ : Row)).1).mem⟩ : Sto) ((addI J.idx C).2.1))) 11 (fun d8 => .r 6 <| .lb ar <| .r 1 <| .lb W <| .eq E.t E.t (fun d9 => .r 8 <| .d <| .rt Tryz.func3 Tryz.results3 (.bool true) ⟨(congrArg Value.bool (by rfl)), O⟩) fun d9 => .r 3 <| .lb W <| .r 4 <| .d <| .rt Tryz.func3 Tryz.results3 (.bool (atV E.t (rowsI (⟨(⟨(((addP (⟨(⟨(((addP J C E).1).idx).names, (((addP J C E).1).idx).posts⟩ : Idx), ((addP J C E).1).parts, ((addP J C E).1).mem⟩ : Sto) C (⟨E.t, 11⟩ : Row)).1).idx).names, (((addP (⟨(⟨(((addP J C E).1).idx).names, (((addP J C E).1).idx).posts⟩ : Idx), ((addP J C E).1).parts, ((addP J C E).1).mem⟩ : Sto) C (⟨E.t, 11⟩ : Row)).1).idx).posts⟩ : Idx), ((addP (⟨(⟨(((addP J C E).1).idx).names, (((addP J C E).1).idx).posts⟩ : Idx), ((addP J C E).1).parts, ((addP J C E).1).mem⟩ : Sto) C (⟨E.t, 11⟩ : Row)).1).parts, ((addP (⟨(⟨(((addP J C E).1).idx).names, (((addP J C E).1).idx).posts⟩ : Idx), ((addP J C E).1).parts, ((addP J C E).1).mem⟩ : Sto) C (⟨E.t, 11⟩ : Row)).1).mem⟩ : Sto) ((addI J.idx C).2.1)) == E.v)) ⟨(congrArg Value.bool (by first | (have q1 : SD _ ∧ NmD _ ∧ RowSm _ := (by assumption); have q2 := law_two q1.1 q1.2.1 (by assumption) (by assumption); have q3 := q2.2.2.2; simp_all; done) | (simp_all; done))), O⟩) fun d8 => .r 18 <| .d <| .rt Tryz.func3 Tryz.results3 (.bool false) ⟨(congrArg Value.bool (by have q1 : SD _ ∧ NmD _ ∧ RowSm _ := (by assumption); exfalso; first | (have q2 := law_two q1.1 q1.2.1 (by assumption) (by assumption); simp_all; done) | simp_all)), O⟩
 refine .d <| .cf <| .sk <| .s <| .g <| .ln aa <| .r 1 <| .ln aq <| .cl (c_impl_StoreAdd (⟨(⟨(((addP J C E).1).idx).names, (((addP J C E).1).idx).posts⟩ : Idx), ((addP J C E).1).parts, ((addP J C E).1).mem⟩ : Sto) C (⟨Int.tmod (more.length : Int) 40, 11⟩ : Row) ag ah ai aj al (by have q1 : SD _ ∧ NmD _ ∧ RowSm _ := (by assumption); first | exact q1.1 | exact addP_sd q1.1 q1.2.1 (by assumption) | exact addP_sd (addP_sd q1.1 q1.2.1 (by assumption)) q1.2.1 (by assumption)) (by have q1 : SD _ ∧ NmD _ ∧ RowSm _ := (by assumption); exact q1.2.1) (w := cQ) (F := nin (fo F w.heap.size) [ak, ac, ab, af, ae])) ?_
 rintro iR iS ⟨⟨iT, rfl, ⟨_, rfl, ⟨db, iU, dd, de, iV, df, dg, iW, dh, di, iX, dj, rfl, aE, aF, aG, aH⟩⟩⟩, cm⟩
 have bh := al5 aq.lt aa.lt V.lt W.lt Z.lt
 have bo : Gb w.heap.size cQ.heap.size := O.size
 replace ⟨am, ao, al, Z, W, V, aa, aq, O⟩ := (se [ak, ac, ab, af, ae] cm).g9 am ao al Z W V aa aq O
 clear cm
 replace aE := RepS.mixed' (M := [ak, ac, ab, af, ae]) aE bh bo
 have gl := aE.max
 replace aF := RepS.mixed' (M := [ak, ac, ab, af, ae]) aF bh bo
 have gm := aF.max
 replace aG := RepS.mixed' (M := [ak, ac, ab, af, ae]) aG bh bo
 have gn := aG.max
 replace aH := RepS.mixed' (M := [ak, ac, ab, af, ae]) aH bh bo
 have gp := aH.max
 clear bh
 have ea := aE.len
 subst ea
 have eb := aF.len
 subst eb
 have ec := aG.len
 subst ec
 have ed := aH.len
 subst ed
 refine .r 2 ?_
 cases gq : (addP (⟨(⟨(((addP J C E).1).idx).names, (((addP J C E).1).idx).posts⟩ : Idx), ((addP J C E).1).parts, ((addP J C E).1).mem⟩ : Sto) C (⟨Int.tmod (more.length : Int) 40, 11⟩ : Row)).2
 · refine .r 1 <| .np 30 [.slice none 0 0, .slice none 0 0, .slice none 0 0, .slice none 0 0] fun dk iY aP bP ee ef => ?_
   have gr := nb_new aP Z.lt
   have gs := nb_new aP W.lt
   have gt := nb_new aP V.lt
   have gu := nb_new aP aa.lt
   have gv := nb_new aP aq.lt
   have gw := O.cn aP
   replace ⟨am, ao, al, Z, W, V, aa, aq, aE, aF, aG, aH⟩ := (sn [ak, ac, ab, af, ae] bP aP).g12 am ao al Z W V aa aq aE aF aG aH
   replace O := (sn [ak, ac, ab, af, ae] bP aP).g1 O
   clear bP ef aP
   refine .sc [.slice db (((((addP (⟨(⟨(((addP J C E).1).idx).names, (((addP J C E).1).idx).posts⟩ : Idx), ((addP J C E).1).parts, ((addP J C E).1).mem⟩ : Sto) C (⟨Int.tmod (more.length : Int) 40, 11⟩ : Row)).1).idx).names).length) dd, .slice de (((((addP (⟨(⟨(((addP J C E).1).idx).names, (((addP J C E).1).idx).posts⟩ : Idx), ((addP J C E).1).parts, ((addP J C E).1).mem⟩ : Sto) C (⟨Int.tmod (more.length : Int) 40, 11⟩ : Row)).1).idx).posts).length) df, .slice dg ((((addP (⟨(⟨(((addP J C E).1).idx).names, (((addP J C E).1).idx).posts⟩ : Idx), ((addP J C E).1).parts, ((addP J C E).1).mem⟩ : Sto) C (⟨Int.tmod (more.length : Int) 40, 11⟩ : Row)).1).parts).length) dh, .slice di ((((addP (⟨(⟨(((addP J C E).1).idx).names, (((addP J C E).1).idx).posts⟩ : Idx), ((addP J C E).1).parts, ((addP J C E).1).mem⟩ : Sto) C (⟨Int.tmod (more.length : Int) 40, 11⟩ : Row)).1).mem).length) dj] ee fun iZ bQ gx eg => ?_
   replace ⟨am, ao, al, Z, W, V, aa, aq, aE, aF, aG, aH⟩ := (so [dk, ak, ac, ab, af, ae] bQ).g12 am ao al Z W V aa aq aE aF aG aH
   replace O := (so [dk, ak, ac, ab, af, ae] bQ).g1 O
   clear bQ eg
   exact .r 1 <| .d <| .s <| .s <| .g <| .r 2 <| .d <| .ct <| .s <| .g <| .r 1 <| .d <| .rt Tryz.func3 Tryz.results3 (.bool true) ⟨(congrArg Value.bool (by rfl)), O⟩
 refine .r 1 <| .np 30 [.slice none 0 0, .slice none 0 0, .slice none 0 0, .slice none 0 0] fun aV ja aQ bR eh ei => ?_
 have gy := nb_new aQ Z.lt
 have gz := nb_new aQ W.lt
 have gA := nb_new aQ V.lt
 have gC := nb_new aQ aa.lt
 have gD := nb_new aQ aq.lt
 have gE := O.cn aQ
 replace ⟨am, ao, al, Z, W, V, aa, aq, aE, aF, aG, aH⟩ := (sn [ak, ac, ab, af, ae] bR aQ).g12 am ao al Z W V aa aq aE aF aG aH
 replace O := (sn [ak, ac, ab, af, ae] bR aQ).g1 O
 clear bR ei aQ
 refine .sc [.slice db (((((addP (⟨(⟨(((addP J C E).1).idx).names, (((addP J C E).1).idx).posts⟩ : Idx), ((addP J C E).1).parts, ((addP J C E).1).mem⟩ : Sto) C (⟨Int.tmod (more.length : Int) 40, 11⟩ : Row)).1).idx).names).length) dd, .slice de (((((addP (⟨(⟨(((addP J C E).1).idx).names, (((addP J C E).1).idx).posts⟩ : Idx), ((addP J C E).1).parts, ((addP J C E).1).mem⟩ : Sto) C (⟨Int.tmod (more.length : Int) 40, 11⟩ : Row)).1).idx).posts).length) df, .slice dg ((((addP (⟨(⟨(((addP J C E).1).idx).names, (((addP J C E).1).idx).posts⟩ : Idx), ((addP J C E).1).parts, ((addP J C E).1).mem⟩ : Sto) C (⟨Int.tmod (more.length : Int) 40, 11⟩ : Row)).1).parts).length) dh, .slice di ((((addP (⟨(⟨(((addP J C E).1).idx).names, (((addP J C E).1).idx).posts⟩ : Idx), ((addP J C E).1).parts, ((addP J C E).1).mem⟩ : Sto) C (⟨Int.tmod (more.length : Int) 40, 11⟩ : Row)).1).mem).length) dj] eh fun dm bS aK ej => ?_
 replace ⟨am, ao, al, Z, W, V, aa, aq, aE, aF, aG, aH⟩ := (so [aV, ak, ac, ab, af, ae] bS).g12 am ao al Z W V aa aq aE aF aG aH
 replace O := (so [aV, ak, ac, ab, af, ae] bS).g1 O
 clear bS ej
 refine .r 1 <| .d <| .s <| .s <| .g <| .r 2 <| .d <| .cf <| .sk <| .s <| .g <| .r 1 <| .ln Z <| .r 1 <| .cl (c_impl_IndexAdd J.idx C am ao al (by have q1 : SD _ ∧ NmD _ ∧ RowSm _ := (by assumption); exact q1.1.ix) (by have q1 : SD _ ∧ NmD _ ∧ RowSm _ := (by assumption); exact q1.1.nd) (by have q1 : SD _ ∧ NmD _ ∧ RowSm _ := (by assumption); exact q1.2.1) (w := dm) (F := nin (fo F w.heap.size) [aV, ak, ac, ab, af, ae])) ?_
 rintro jb jc ⟨⟨jd, rfl, ⟨_, rfl, ⟨eW, je, eX, eY, jf, eZ, rfl, bY, bZ⟩⟩⟩, co⟩
 have bT := al6 aK.lt aq.lt aa.lt V.lt W.lt Z.lt
 have cp : Gb w.heap.size dm.heap.size := O.size
 replace ⟨Z, W, V, aa, aq, aE, aF, aG, aH, aK, O⟩ := (se [aV, ak, ac, ab, af, ae] co).g11 Z W V aa aq aE aF aG aH aK O
 clear co
 replace bY := RepS.mixed' (M := [aV, ak, ac, ab, af, ae]) bY bT cp
 have gF := bY.max
 replace bZ := RepS.mixed' (M := [aV, ak, ac, ab, af, ae]) bZ bT cp
 have gG := bZ.max
 clear bT
 have ek := bY.len
 subst ek
 have em := bZ.len
 subst em
 refine .r 4 <| .np 26 [.slice none 0 0, .slice none 0 0] fun cq jg aR cr en eo => ?_
 have gH := nb_new aR Z.lt
 have gI := nb_new aR W.lt
 have gJ := nb_new aR V.lt
 have gK := nb_new aR aa.lt
 have gL := nb_new aR aq.lt
 have gM := nb_new aR aK.lt
 have gN := O.cn aR
 replace ⟨Z, W, V, aa, aq, aE, aF, aG, aH, aK, O⟩ := (sn [aV, ak, ac, ab, af, ae] cr aR).g11 Z W V aa aq aE aF aG aH aK O
 clear cr eo aR
 refine .sc [.slice eW ((((addI J.idx C).1).names).length) eX, .slice eY ((((addI J.idx C).1).posts).length) eZ] en fun dp cu ep es => ?_
 replace ⟨Z, W, V, aa, aq, aE, aF, aG, aH, aK, O⟩ := (so [cq, aV, ak, ac, ab, af, ae] cu).g11 Z W V aa aq aE aF aG aH aK O
 clear cu es
 refine .r 2 <| .d <| .s <| .g <| .ln aK <| .r 1 <| .cl (c_impl_StoreRows (⟨(⟨(((addP (⟨(⟨(((addP J C E).1).idx).names, (((addP J C E).1).idx).posts⟩ : Idx), ((addP J C E).1).parts, ((addP J C E).1).mem⟩ : Sto) C (⟨Int.tmod (more.length : Int) 40, 11⟩ : Row)).1).idx).names, (((addP (⟨(⟨(((addP J C E).1).idx).names, (((addP J C E).1).idx).posts⟩ : Idx), ((addP J C E).1).parts, ((addP J C E).1).mem⟩ : Sto) C (⟨Int.tmod (more.length : Int) 40, 11⟩ : Row)).1).idx).posts⟩ : Idx), ((addP (⟨(⟨(((addP J C E).1).idx).names, (((addP J C E).1).idx).posts⟩ : Idx), ((addP J C E).1).parts, ((addP J C E).1).mem⟩ : Sto) C (⟨Int.tmod (more.length : Int) 40, 11⟩ : Row)).1).parts, ((addP (⟨(⟨(((addP J C E).1).idx).names, (((addP J C E).1).idx).posts⟩ : Idx), ((addP J C E).1).parts, ((addP J C E).1).mem⟩ : Sto) C (⟨Int.tmod (more.length : Int) 40, 11⟩ : Row)).1).mem⟩ : Sto) ((addI J.idx C).2.1) aE.ta aF.ta aG.ta aH.ta (by have q1 : SD _ ∧ NmD _ ∧ RowSm _ := (by assumption); first | exact q1.1 | exact addP_sd q1.1 q1.2.1 (by assumption) | exact addP_sd (addP_sd q1.1 q1.2.1 (by assumption)) q1.2.1 (by assumption)) (w := dp) (F := all)) ?_
 rintro jh e0 ⟨⟨ji, jj, rfl, aT⟩, cv⟩
 have cw := al7 ep.lt aK.lt aq.lt aa.lt V.lt W.lt Z.lt
 have et : Gb w.heap.size dp.heap.size := O.size
 replace ⟨W, aq, O⟩ := (se [] cv).g3 W aq O
 clear cv
 have aT := aT.fr cw et
 replace aT := aT.base (G' := fo F w.heap.size) (fun _ _ h => .inr h)
 have gO := aT.max
 clear cw
 refine .r 1 <| .d <| .s <| .g <| .r 2 <| .lb aq <| .cl (c_laws_lyAt (rowsI (⟨(⟨(((addP (⟨(⟨(((addP J C E).1).idx).names, (((addP J C E).1).idx).posts⟩ : Idx), ((addP J C E).1).parts, ((addP J C E).1).mem⟩ : Sto) C (⟨Int.tmod (more.length : Int) 40, 11⟩ : Row)).1).idx).names, (((addP (⟨(⟨(((addP J C E).1).idx).names, (((addP J C E).1).idx).posts⟩ : Idx), ((addP J C E).1).parts, ((addP J C E).1).mem⟩ : Sto) C (⟨Int.tmod (more.length : Int) 40, 11⟩ : Row)).1).idx).posts⟩ : Idx), ((addP (⟨(⟨(((addP J C E).1).idx).names, (((addP J C E).1).idx).posts⟩ : Idx), ((addP J C E).1).parts, ((addP J C E).1).mem⟩ : Sto) C (⟨Int.tmod (more.length : Int) 40, 11⟩ : Row)).1).parts, ((addP (⟨(⟨(((addP J C E).1).idx).names, (((addP J C E).1).idx).posts⟩ : Idx), ((addP J C E).1).parts, ((addP J C E).1).mem⟩ : Sto) C (⟨Int.tmod (more.length : Int) 40, 11⟩ : Row)).1).mem⟩ : Sto) ((addI J.idx C).2.1)) (Int.tmod (more.length : Int) 40) aT.ta (w := e0) (F := all)) ?_
 rintro jk dq ⟨rfl, cx⟩
 replace ⟨W, aq, aT, O⟩ := (se [cq, aV, ak, ac, ab, af, ae] cx).g4 W aq aT O
 clear cx
 refine .r 2 ?_
 cases gP : (atB (Int.tmod (more.length : Int) 40) (rowsI (⟨(⟨(((addP (⟨(⟨(((addP J C E).1).idx).names, (((addP J C E).1).idx).posts⟩ : Idx), ((addP J C E).1).parts, ((addP J C E).1).mem⟩ : Sto) C (⟨Int.tmod (more.length : Int) 40, 11⟩ : Row)).1).idx).names, (((addP (⟨(⟨(((addP J C E).1).idx).names, (((addP J C E).1).idx).posts⟩ : Idx), ((addP J C E).1).parts, ((addP J C E).1).mem⟩ : Sto) C (⟨Int.tmod (more.length : Int) 40, 11⟩ : Row)).1).idx).posts⟩ : Idx), ((addP (⟨(⟨(((addP J C E).1).idx).names, (((addP J C E).1).idx).posts⟩ : Idx), ((addP J C E).1).parts, ((addP J C E).1).mem⟩ : Sto) C (⟨Int.tmod (more.length : Int) 40, 11⟩ : Row)).1).parts, ((addP (⟨(⟨(((addP J C E).1).idx).names, (((addP J C E).1).idx).posts⟩ : Idx), ((addP J C E).1).parts, ((addP J C E).1).mem⟩ : Sto) C (⟨Int.tmod (more.length : Int) 40, 11⟩ : Row)).1).mem⟩ : Sto) ((addI J.idx C).2.1)))
 · refine .r 3 <| .d <| .s <| .g <| .r 2 <| .lb W <| .cl (c_laws_lyAt (rowsI (⟨(⟨(((addP (⟨(⟨(((addP J C E).1).idx).names, (((addP J C E).1).idx).posts⟩ : Idx), ((addP J C E).1).parts, ((addP J C E).1).mem⟩ : Sto) C (⟨Int.tmod (more.length : Int) 40, 11⟩ : Row)).1).idx).names, (((addP (⟨(⟨(((addP J C E).1).idx).names, (((addP J C E).1).idx).posts⟩ : Idx), ((addP J C E).1).parts, ((addP J C E).1).mem⟩ : Sto) C (⟨Int.tmod (more.length : Int) 40, 11⟩ : Row)).1).idx).posts⟩ : Idx), ((addP (⟨(⟨(((addP J C E).1).idx).names, (((addP J C E).1).idx).posts⟩ : Idx), ((addP J C E).1).parts, ((addP J C E).1).mem⟩ : Sto) C (⟨Int.tmod (more.length : Int) 40, 11⟩ : Row)).1).parts, ((addP (⟨(⟨(((addP J C E).1).idx).names, (((addP J C E).1).idx).posts⟩ : Idx), ((addP J C E).1).parts, ((addP J C E).1).mem⟩ : Sto) C (⟨Int.tmod (more.length : Int) 40, 11⟩ : Row)).1).mem⟩ : Sto) ((addI J.idx C).2.1)) E.t aT.ta (w := dq) (F := all)) ?_
   rintro jl jm ⟨rfl, cy⟩
   replace ⟨W, aq, aT, O⟩ := (se [cq, aV, ak, ac, ab, af, ae] cy).g4 W aq aT O
   clear cy
   refine .r 2 ?_
   cases gQ : (atB E.t (rowsI (⟨(⟨(((addP (⟨(⟨(((addP J C E).1).idx).names, (((addP J C E).1).idx).posts⟩ : Idx), ((addP J C E).1).parts, ((addP J C E).1).mem⟩ : Sto) C (⟨Int.tmod (more.length : Int) 40, 11⟩ : Row)).1).idx).names, (((addP (⟨(⟨(((addP J C E).1).idx).names, (((addP J C E).1).idx).posts⟩ : Idx), ((addP J C E).1).parts, ((addP J C E).1).mem⟩ : Sto) C (⟨Int.tmod (more.length : Int) 40, 11⟩ : Row)).1).idx).posts⟩ : Idx), ((addP (⟨(⟨(((addP J C E).1).idx).names, (((addP J C E).1).idx).posts⟩ : Idx), ((addP J C E).1).parts, ((addP J C E).1).mem⟩ : Sto) C (⟨Int.tmod (more.length : Int) 40, 11⟩ : Row)).1).parts, ((addP (⟨(⟨(((addP J C E).1).idx).names, (((addP J C E).1).idx).posts⟩ : Idx), ((addP J C E).1).parts, ((addP J C E).1).mem⟩ : Sto) C (⟨Int.tmod (more.length : Int) 40, 11⟩ : Row)).1).mem⟩ : Sto) ((addI J.idx C).2.1)))
   · exact .r 3 <| .d <| .s <| .g <| .r 22 <| .d <| .rt Tryz.func3 Tryz.results3 (.bool false) ⟨(congrArg Value.bool (by have q1 : SD _ ∧ NmD _ ∧ RowSm _ := (by assumption); exfalso; first | (have q2 := law_two q1.1 q1.2.1 (by assumption) (by assumption); simp_all; done) | simp_all)), O⟩
   exact .r 3 <| .d <| .s <| .g <| .r 22 <| .d <| .rt Tryz.func3 Tryz.results3 (.bool false) ⟨(congrArg Value.bool (by have q1 : SD _ ∧ NmD _ ∧ RowSm _ := (by assumption); exfalso; first | (have q2 := law_two q1.1 q1.2.1 (by assumption) (by assumption); simp_all; done) | simp_all)), O⟩
 refine .r 3 <| .d <| .s <| .g <| .r 2 <| .lb W <| .cl (c_laws_lyAt (rowsI (⟨(⟨(((addP (⟨(⟨(((addP J C E).1).idx).names, (((addP J C E).1).idx).posts⟩ : Idx), ((addP J C E).1).parts, ((addP J C E).1).mem⟩ : Sto) C (⟨Int.tmod (more.length : Int) 40, 11⟩ : Row)).1).idx).names, (((addP (⟨(⟨(((addP J C E).1).idx).names, (((addP J C E).1).idx).posts⟩ : Idx), ((addP J C E).1).parts, ((addP J C E).1).mem⟩ : Sto) C (⟨Int.tmod (more.length : Int) 40, 11⟩ : Row)).1).idx).posts⟩ : Idx), ((addP (⟨(⟨(((addP J C E).1).idx).names, (((addP J C E).1).idx).posts⟩ : Idx), ((addP J C E).1).parts, ((addP J C E).1).mem⟩ : Sto) C (⟨Int.tmod (more.length : Int) 40, 11⟩ : Row)).1).parts, ((addP (⟨(⟨(((addP J C E).1).idx).names, (((addP J C E).1).idx).posts⟩ : Idx), ((addP J C E).1).parts, ((addP J C E).1).mem⟩ : Sto) C (⟨Int.tmod (more.length : Int) 40, 11⟩ : Row)).1).mem⟩ : Sto) ((addI J.idx C).2.1)) E.t aT.ta (w := dq) (F := all)) ?_
 rintro jn jo ⟨rfl, cz⟩
 replace ⟨W, aq, O⟩ := (se [] cz).g3 W aq O
 clear cz
 refine .r 2 ?_
 cases gR : (atB E.t (rowsI (⟨(⟨(((addP (⟨(⟨(((addP J C E).1).idx).names, (((addP J C E).1).idx).posts⟩ : Idx), ((addP J C E).1).parts, ((addP J C E).1).mem⟩ : Sto) C (⟨Int.tmod (more.length : Int) 40, 11⟩ : Row)).1).idx).names, (((addP (⟨(⟨(((addP J C E).1).idx).names, (((addP J C E).1).idx).posts⟩ : Idx), ((addP J C E).1).parts, ((addP J C E).1).mem⟩ : Sto) C (⟨Int.tmod (more.length : Int) 40, 11⟩ : Row)).1).idx).posts⟩ : Idx), ((addP (⟨(⟨(((addP J C E).1).idx).names, (((addP J C E).1).idx).posts⟩ : Idx), ((addP J C E).1).parts, ((addP J C E).1).mem⟩ : Sto) C (⟨Int.tmod (more.length : Int) 40, 11⟩ : Row)).1).parts, ((addP (⟨(⟨(((addP J C E).1).idx).names, (((addP J C E).1).idx).posts⟩ : Idx), ((addP J C E).1).parts, ((addP J C E).1).mem⟩ : Sto) C (⟨Int.tmod (more.length : Int) 40, 11⟩ : Row)).1).mem⟩ : Sto) ((addI J.idx C).2.1)))
 · exact .r 3 <| .d <| .s <| .g <| .r 3 <| .eq (atV (Int.tmod (more.length : Int) 40) (rowsI (⟨(⟨(((addP (⟨(⟨(((addP J C E).1).idx).names, (((addP J C E).1).idx).posts⟩ : Idx), ((addP J C E).1).parts, ((addP J C E).1).mem⟩ : Sto) C (⟨Int.tmod (more.length : Int) 40, 11⟩ : Row)).1).idx).names, (((addP (⟨(⟨(((addP J C E).1).idx).names, (((addP J C E).1).idx).posts⟩ : Idx), ((addP J C E).1).parts, ((addP J C E).1).mem⟩ : Sto) C (⟨Int.tmod (more.length : Int) 40, 11⟩ : Row)).1).idx).posts⟩ : Idx), ((addP (⟨(⟨(((addP J C E).1).idx).names, (((addP J C E).1).idx).posts⟩ : Idx), ((addP J C E).1).parts, ((addP J C E).1).mem⟩ : Sto) C (⟨Int.tmod (more.length : Int) 40, 11⟩ : Row)).1).parts, ((addP (⟨(⟨(((addP J C E).1).idx).names, (((addP J C E).1).idx).posts⟩ : Idx), ((addP J C E).1).parts, ((addP J C E).1).mem⟩ : Sto) C (⟨Int.tmod (more.length : Int) 40, 11⟩ : Row)).1).mem⟩ : Sto) ((addI J.idx C).2.1))) 11 (fun ew => .r 18 <| .d <| .rt Tryz.func3 Tryz.results3 (.bool false) ⟨(congrArg Value.bool (by have q1 : SD _ ∧ NmD _ ∧ RowSm _ := (by assumption); exfalso; first | (have q2 := law_two q1.1 q1.2.1 (by assumption) (by assumption); simp_all; done) | simp_all)), O⟩) fun ew => .r 18 <| .d <| .rt Tryz.func3 Tryz.results3 (.bool false) ⟨(congrArg Value.bool (by have q1 : SD _ ∧ NmD _ ∧ RowSm _ := (by assumption); exfalso; first | (have q2 := law_two q1.1 q1.2.1 (by assumption) (by assumption); simp_all; done) | simp_all)), O⟩
 exact .r 3 <| .d <| .s <| .g <| .r 3 <| .eq (atV (Int.tmod (more.length : Int) 40) (rowsI (⟨(⟨(((addP (⟨(⟨(((addP J C E).1).idx).names, (((addP J C E).1).idx).posts⟩ : Idx), ((addP J C E).1).parts, ((addP J C E).1).mem⟩ : Sto) C (⟨Int.tmod (more.length : Int) 40, 11⟩ : Row)).1).idx).names, (((addP (⟨(⟨(((addP J C E).1).idx).names, (((addP J C E).1).idx).posts⟩ : Idx), ((addP J C E).1).parts, ((addP J C E).1).mem⟩ : Sto) C (⟨Int.tmod (more.length : Int) 40, 11⟩ : Row)).1).idx).posts⟩ : Idx), ((addP (⟨(⟨(((addP J C E).1).idx).names, (((addP J C E).1).idx).posts⟩ : Idx), ((addP J C E).1).parts, ((addP J C E).1).mem⟩ : Sto) C (⟨Int.tmod (more.length : Int) 40, 11⟩ : Row)).1).parts, ((addP (⟨(⟨(((addP J C E).1).idx).names, (((addP J C E).1).idx).posts⟩ : Idx), ((addP J C E).1).parts, ((addP J C E).1).mem⟩ : Sto) C (⟨Int.tmod (more.length : Int) 40, 11⟩ : Row)).1).mem⟩ : Sto) ((addI J.idx C).2.1))) 11 (fun ex => .r 6 <| .lb aq <| .r 1 <| .lb W <| .eq (Int.tmod (more.length : Int) 40) E.t (fun ey => .r 8 <| .d <| .rt Tryz.func3 Tryz.results3 (.bool true) ⟨(congrArg Value.bool (by rfl)), O⟩) fun ey => .r 3 <| .lb W <| .r 4 <| .d <| .rt Tryz.func3 Tryz.results3 (.bool (atV E.t (rowsI (⟨(⟨(((addP (⟨(⟨(((addP J C E).1).idx).names, (((addP J C E).1).idx).posts⟩ : Idx), ((addP J C E).1).parts, ((addP J C E).1).mem⟩ : Sto) C (⟨Int.tmod (more.length : Int) 40, 11⟩ : Row)).1).idx).names, (((addP (⟨(⟨(((addP J C E).1).idx).names, (((addP J C E).1).idx).posts⟩ : Idx), ((addP J C E).1).parts, ((addP J C E).1).mem⟩ : Sto) C (⟨Int.tmod (more.length : Int) 40, 11⟩ : Row)).1).idx).posts⟩ : Idx), ((addP (⟨(⟨(((addP J C E).1).idx).names, (((addP J C E).1).idx).posts⟩ : Idx), ((addP J C E).1).parts, ((addP J C E).1).mem⟩ : Sto) C (⟨Int.tmod (more.length : Int) 40, 11⟩ : Row)).1).parts, ((addP (⟨(⟨(((addP J C E).1).idx).names, (((addP J C E).1).idx).posts⟩ : Idx), ((addP J C E).1).parts, ((addP J C E).1).mem⟩ : Sto) C (⟨Int.tmod (more.length : Int) 40, 11⟩ : Row)).1).mem⟩ : Sto) ((addI J.idx C).2.1)) == E.v)) ⟨(congrArg Value.bool (by first | (have q1 : SD _ ∧ NmD _ ∧ RowSm _ := (by assumption); have q2 := law_two q1.1 q1.2.1 (by assumption) (by assumption); have q3 := q2.2.2.2; simp_all; done) | (simp_all; done))), O⟩) fun ex => .r 18 <| .d <| .rt Tryz.func3 Tryz.results3 (.bool false) ⟨(congrArg Value.bool (by have q1 : SD _ ∧ NmD _ ∧ RowSm _ := (by assumption); exfalso; first | (have q2 := law_two q1.1 q1.2.1 (by assumption) (by assumption); simp_all; done) | simp_all)), O⟩
end Go.Proofs.YtndljnhfkdhggaaGreat