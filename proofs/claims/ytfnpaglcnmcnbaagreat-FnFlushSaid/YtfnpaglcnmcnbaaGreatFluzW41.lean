/- walks; squeezed -/
import Derived.Test.YtfnpaglcnmcnbaaGreatFluzMod41
set_option linter.unusedVariables false
set_option linter.unusedSimpArgs false
namespace Go.Proofs.YtfnpaglcnmcnbaaGreat
set_option maxRecDepth 100000
set_option maxHeartbeats 4000000
theorem c_laws_FnFlush (code : List UInt8) {w : World} {F : Nat → Prop} {a1 : Option Addr} {n1 c1 : Nat} (h1 : RepS w F a1 n1 c1 code)  : Calls Tryz.prog 9 [.slice a1 n1 c1].toArray w (rets fun rv w' => rv = .bool (true) ∧ Ext w w') := by
 refine goT Tryz.func9 ?_
 obtain ⟨rfl, dB, h1⟩ := h1.tp
 refine .s <| .g <| .r 1 <| .d <| .s <| .s <| .g <| .r 2 <| .bp ((code.length : Int) > 1048576) (fun cm => .d <| .ct <| .s <| .g <| .r 1 <| .d <| .rt Tryz.func9 Tryz.results9 (.bool true) ⟨(congrArg Value.bool (by rfl)), (Chg.refl _ _)⟩) fun cm => .d <| .cf <| .sk <| .s <| .g <| .r 1 <| .cl (c_spec_DrawStoreFlush code h1 (w := w) (F := nin (fo F w.heap.size) [])) ?_
 rintro eA eB ⟨⟨C, ⟨_, rfl, ⟨cL, eC, cM, cN, eD, cO, cP, eE, cQ, cR, eF, cS, rfl, ac, ae, ag, ah⟩⟩, dC⟩, bz⟩
 have aC : ∀ q_ ∈ ([] : List Nat), q_ < w.heap.size := all_nil
 have aX : Gb w.heap.size w.heap.size := (Nat.le_refl _)
 have E := bz
 clear bz
 replace ac := RepS.mixed' (M := []) ac aC aX
 have dD := ac.max
 replace ae := RepS.mixed' (M := []) ae aC aX
 have dE := ae.max
 replace ag := RepS.mixed' (M := []) ag aC aX
 have dF := ag.max
 replace ah := RepS.mixed' (M := []) ah aC aX
 have dG := ah.max
 clear aC
 have co := ac.len
 subst co
 have cp := ae.len
 subst cp
 have cq := ag.len
 subst cq
 have cr := ah.len
 subst cr
 refine .np 30 [.slice none 0 0, .slice none 0 0, .slice none 0 0, .slice none 0 0] fun ai eG bd bA cu cv => ?_
 have dH := E.cn bd
 replace ⟨ac, ae, ag, ah, E⟩ := (sn [] bA bd).g5 ac ae ag ah E
 clear bA cv bd
 refine .sc [.slice cL C.idx.names.length cM, .slice cN C.idx.posts.length cO, .slice cP C.parts.length cQ, .slice cR C.mem.length cS] cu fun cw bB J cx => ?_
 replace ⟨ac, ae, ag, ah, E⟩ := (so [ai] bB).g5 ac ae ag ah E
 clear bB cx
 refine .d <| .s <| .g <| .ln J <| .cl (c_spec_StoreFlush C ac ae ag ah (by have q1 : SD C := (by assumption); first | exact q1 | exact flush_sd q1 (by assumption)) (w := cw) (F := nin (fo F w.heap.size) [ai])) ?_
 rintro eH eI ⟨⟨eJ, rfl, ⟨_, rfl, ⟨cT, eK, cU, cV, eL, cW, cX, eM, cY, cZ, eN, c7, rfl, aj, ak, al, am⟩⟩⟩, bC⟩
 have aD := al1 J.lt
 have aY : Gb w.heap.size cw.heap.size := E.size
 replace ⟨ac, ae, ag, ah, J, E⟩ := (se [ai] bC).g6 ac ae ag ah J E
 clear bC
 replace aj := RepS.mixed' (M := [ai]) aj aD aY
 have dI := aj.max
 replace ak := RepS.mixed' (M := [ai]) ak aD aY
 have dJ := ak.max
 replace al := RepS.mixed' (M := [ai]) al aD aY
 have dK := al.max
 replace am := RepS.mixed' (M := [ai]) am aD aY
 have dL := am.max
 clear aD
 have cy := aj.len
 subst cy
 have cz := ak.len
 subst cz
 have cA := al.len
 subst cA
 have cB := am.len
 subst cB
 refine .r 3 <| .np 30 [.slice none 0 0, .slice none 0 0, .slice none 0 0, .slice none 0 0] fun ao eO aZ bD cC cD => ?_
 have c8 := nb_new aZ J.lt
 have c9 := E.cn aZ
 replace ⟨ac, ae, ag, ah, J, aj, ak, al, am, E⟩ := (sn [ai] bD aZ).g10 ac ae ag ah J aj ak al am E
 clear bD cD aZ
 refine .sc [.slice cT (((((flushP C).1).idx).names).length) cU, .slice cV (((((flushP C).1).idx).posts).length) cW, .slice cX ((((flushP C).1).parts).length) cY, .slice cZ ((((flushP C).1).mem).length) c7] cC fun bE bg ab bQ => ?_
 replace ⟨ac, ae, ag, ah, J, aj, ak, al, am, E⟩ := (so [ao, ai] bg).g10 ac ae ag ah J aj ak al am E
 clear bg bQ
 refine .r 1 <| .d <| .s <| .g <| .ln J <| .cl (c_impl_StoreFlush C ac ae ag ah (by have q1 : SD C := (by assumption); first | exact q1 | exact flush_sd q1 (by assumption)) (w := bE) (F := nin (fo F w.heap.size) [ao, ai])) ?_
 rintro dM dN ⟨⟨dO, rfl, ⟨_, rfl, ⟨bF, dP, bG, bH, dQ, bI, bJ, dR, bK, bL, dS, bM, rfl, V, W, O, Z⟩⟩⟩, bh⟩
 have aA := al2 ab.lt J.lt
 have aB : Gb w.heap.size bE.heap.size := E.size
 replace ⟨ac, ae, ag, ah, J, aj, ak, al, am, ab, E⟩ := (se [ao, ai] bh).g11 ac ae ag ah J aj ak al am ab E
 clear bh
 replace V := RepS.mixed' (M := [ao, ai]) V aA aB
 replace W := RepS.mixed' (M := [ao, ai]) W aA aB
 replace O := RepS.mixed' (M := [ao, ai]) O aA aB
 replace Z := RepS.mixed' (M := [ao, ai]) Z aA aB
 clear aA
 have bR := V.len
 subst bR
 have bS := W.len
 subst bS
 have bT := O.len
 subst bT
 have bU := Z.len
 subst bU
 refine .r 2 ?_
 cases da : (flushP C).2
 · refine .r 1 <| .np 30 [.slice none 0 0, .slice none 0 0, .slice none 0 0, .slice none 0 0] fun ax dT ay aI bV bW => ?_
   have db := nb_new ay J.lt
   have dd := nb_new ay ab.lt
   have de := E.cn ay
   replace ⟨ac, ae, ag, ah, J, aj, ak, al, am, ab, V, W⟩ := (sn [ao, ai] aI ay).g12 ac ae ag ah J aj ak al am ab V W
   replace ⟨O, Z, E⟩ := (sn [ao, ai] aI ay).g3 O Z E
   clear aI bW ay
   refine .sc [.slice bF (((((flushP C).1).idx).names).length) bG, .slice bH (((((flushP C).1).idx).posts).length) bI, .slice bJ ((((flushP C).1).parts).length) bK, .slice bL ((((flushP C).1).mem).length) bM] bV fun cE aJ au bX => ?_
   replace ⟨ac, ae, ag, ah, J, aj, ak, al, am, ab, V, W⟩ := (so [ax, ao, ai] aJ).g12 ac ae ag ah J aj ak al am ab V W
   replace ⟨O, Z, E⟩ := (so [ax, ao, ai] aJ).g3 O Z E
   clear aJ bX
   refine .r 1 <| .d <| .s <| .s <| .g <| .r 2 <| RG.eqv (v := .bool false) (v' := .bool (false != false)) (by kernel_rfl) (by simp) <| .r 1 <| .ln au <| .ln ab <| .cl (c_laws_lyStore (⟨(⟨(((flushP C).1).idx).names, (((flushP C).1).idx).posts⟩ : Idx), ((flushP C).1).parts, ((flushP C).1).mem⟩ : Sto) (⟨(⟨(((flushP C).1).idx).names, (((flushP C).1).idx).posts⟩ : Idx), ((flushP C).1).parts, ((flushP C).1).mem⟩ : Sto) V.ta W.ta O.ta Z.ta aj.ta ak.ta al.ta am.ta (w := cE) (F := all)) ?_
   rintro dU bN ⟨rfl, aK⟩
   replace ⟨ac, ae, ag, ah, J, aj, ak, al, am, ab, V, W⟩ := (se [ax, ao, ai] aK).g12 ac ae ag ah J aj ak al am ab V W
   replace ⟨O, Z, au, E⟩ := (se [ax, ao, ai] aK).g4 O Z au E
   clear aK
   cases df : ((⟨(⟨(((flushP C).1).idx).names, (((flushP C).1).idx).posts⟩ : Idx), ((flushP C).1).parts, ((flushP C).1).mem⟩ : Sto) == (⟨(⟨(((flushP C).1).idx).names, (((flushP C).1).idx).posts⟩ : Idx), ((flushP C).1).parts, ((flushP C).1).mem⟩ : Sto))
   · refine .r 7 <| .d <| .ct <| .s <| .g <| .r 2 <| RG.eqv (v := .bool true) (v' := .bool (false == false)) (by kernel_rfl) (by simp) <| .r 1 <| .ln au <| .ln ab <| .cl (c_laws_lyStore (⟨(⟨(((flushP C).1).idx).names, (((flushP C).1).idx).posts⟩ : Idx), ((flushP C).1).parts, ((flushP C).1).mem⟩ : Sto) (⟨(⟨(((flushP C).1).idx).names, (((flushP C).1).idx).posts⟩ : Idx), ((flushP C).1).parts, ((flushP C).1).mem⟩ : Sto) V.ta W.ta O.ta Z.ta aj.ta ak.ta al.ta am.ta (w := bN) (F := all)) ?_
     rintro dV dW ⟨rfl, aL⟩
     replace ⟨ac, ae, ag, ah, J, aj, ak, al, am, ab, V, W⟩ := (se [ax, ao, ai] aL).g12 ac ae ag ah J aj ak al am ab V W
     replace ⟨O, Z, au, E⟩ := (se [ax, ao, ai] aL).g4 O Z au E
     clear aL
     exact .r 2 <| .d <| .rt Tryz.func9 Tryz.results9 (.bool ((⟨(⟨(((flushP C).1).idx).names, (((flushP C).1).idx).posts⟩ : Idx), ((flushP C).1).parts, ((flushP C).1).mem⟩ : Sto) == (⟨(⟨(((flushP C).1).idx).names, (((flushP C).1).idx).posts⟩ : Idx), ((flushP C).1).parts, ((flushP C).1).mem⟩ : Sto))) ⟨(congrArg Value.bool (by first | (have q1 : SD C := (by assumption); exact (flush_says q1 (by assumption)).2) | (have q1 : SD C := (by assumption); have q2 := flush_no q1 (by assumption) (by assumption); have q3 := q2.2; simp_all [sto_eta]; done) | (have q1 : SD C := (by assumption); have q2 := flush_no q1 (by assumption) (by assumption); have q3 := q2.2; simp_all [sto_eta]; omega) | (have q1 : SD C := (by assumption); have q2 := flush_len q1 (by assumption); have q3 := flush_says q1 (by assumption); simp_all [sto_eta, idx_eta]; done) | (simp_all; done))), E⟩
   refine .r 3 <| .ln J <| .cl (c_spec_StoreOk C ac.ta ae.ta ag.ta ah.ta (by have q1 : SD C := (by assumption); first | exact q1 | exact flush_sd q1 (by assumption)) (w := bN) (F := all)) ?_
   rintro dX bO ⟨rfl, aM⟩
   replace ⟨ac, ae, ag, ah, J, aj, ak, al, am, ab, V, W⟩ := (se [ax, ao, ai] aM).g12 ac ae ag ah J aj ak al am ab V W
   replace ⟨O, Z, au, E⟩ := (se [ax, ao, ai] aM).g4 O Z au E
   clear aM
   cases dg : (storeOk C)
   · refine .r 2 <| .d <| .ct <| .s <| .g <| .r 2 <| RG.eqv (v := .bool true) (v' := .bool (false == false)) (by kernel_rfl) (by simp) <| .r 1 <| .ln au <| .ln ab <| .cl (c_laws_lyStore (⟨(⟨(((flushP C).1).idx).names, (((flushP C).1).idx).posts⟩ : Idx), ((flushP C).1).parts, ((flushP C).1).mem⟩ : Sto) (⟨(⟨(((flushP C).1).idx).names, (((flushP C).1).idx).posts⟩ : Idx), ((flushP C).1).parts, ((flushP C).1).mem⟩ : Sto) V.ta W.ta O.ta Z.ta aj.ta ak.ta al.ta am.ta (w := bO) (F := all)) ?_
     rintro dY dZ ⟨rfl, aN⟩
     replace ⟨ac, ae, ag, ah, J, aj, ak, al, am, ab, V, W⟩ := (se [ax, ao, ai] aN).g12 ac ae ag ah J aj ak al am ab V W
     replace ⟨O, Z, au, E⟩ := (se [ax, ao, ai] aN).g4 O Z au E
     clear aN
     exact .r 2 <| .d <| .rt Tryz.func9 Tryz.results9 (.bool ((⟨(⟨(((flushP C).1).idx).names, (((flushP C).1).idx).posts⟩ : Idx), ((flushP C).1).parts, ((flushP C).1).mem⟩ : Sto) == (⟨(⟨(((flushP C).1).idx).names, (((flushP C).1).idx).posts⟩ : Idx), ((flushP C).1).parts, ((flushP C).1).mem⟩ : Sto))) ⟨(congrArg Value.bool (by first | (have q1 : SD C := (by assumption); exact (flush_says q1 (by assumption)).2) | (have q1 : SD C := (by assumption); have q2 := flush_no q1 (by assumption) (by assumption); have q3 := q2.2; simp_all [sto_eta]; done) | (have q1 : SD C := (by assumption); have q2 := flush_no q1 (by assumption) (by assumption); have q3 := q2.2; simp_all [sto_eta]; omega) | (have q1 : SD C := (by assumption); have q2 := flush_len q1 (by assumption); have q3 := flush_says q1 (by assumption); simp_all [sto_eta, idx_eta]; done) | (simp_all; done))), E⟩
   refine .r 2 <| .d <| .cf <| .sk <| .s <| .s <| .g <| .r 2 <| .d <| .ct <| .s <| .g <| .ln au <| .ln J <| .cl (c_laws_lyStore (⟨(⟨(((flushP C).1).idx).names, (((flushP C).1).idx).posts⟩ : Idx), ((flushP C).1).parts, ((flushP C).1).mem⟩ : Sto) C V.ta W.ta O.ta Z.ta ac.ta ae.ta ag.ta ah.ta (w := bO) (F := all)) ?_
   rintro d0 d3 ⟨rfl, aO⟩
   replace ⟨ac, ae, ag, ah, J, aj, ak, al, am, ab, V, W⟩ := (se [ax, ao, ai] aO).g12 ac ae ag ah J aj ak al am ab V W
   replace ⟨O, Z, E⟩ := (se [ax, ao, ai] aO).g3 O Z E
   clear aO
   cases dh : ((⟨(⟨(((flushP C).1).idx).names, (((flushP C).1).idx).posts⟩ : Idx), ((flushP C).1).parts, ((flushP C).1).mem⟩ : Sto) == C)
   · exact .r 13 <| .d <| .rt Tryz.func9 Tryz.results9 (.bool false) ⟨(congrArg Value.bool (by have q1 : SD C := (by assumption); exfalso; first | exact flush_f q1 (by assumption) (.inl (by assumption)) | exact flush_f q1 (by assumption) (.inr (by assumption)) | exact flush_part q1 (by assumption) (by assumption) (by assumption) (by assumption) | (have q2 := flush_no q1 (by assumption) (by assumption); have q3 := q2.2; simp_all [sto_eta]; done) | (have q2 := flush_no q1 (by assumption) (by assumption); have q3 := q2.2; simp_all [sto_eta]; omega) | (have q2 := flush_len q1 (by assumption); have q3 := flush_says q1 (by assumption); simp_all [sto_eta, idx_eta]; done) | (have q2 := flush_len q1 (by assumption); have q3 := congrArg List.length q2.2.1; simp at q3; omega) | (simp_all; done))), E⟩
   exact .r 2 <| .lb J <| .r 1 <| .eq (C.mem.length : Int) 0 (fun bY => .r 8 <| .d <| .rt Tryz.func9 Tryz.results9 (.bool true) ⟨(congrArg Value.bool (by rfl)), E⟩) fun bY => .r 2 <| .lb J <| .r 5 <| .d <| .rt Tryz.func9 Tryz.results9 (.bool ((C.parts.length : Int) == 6)) ⟨(congrArg Value.bool (by first | (have q1 : SD C := (by assumption); exact (flush_says q1 (by assumption)).2) | (have q1 : SD C := (by assumption); have q2 := flush_no q1 (by assumption) (by assumption); have q3 := q2.2; simp_all [sto_eta]; done) | (have q1 : SD C := (by assumption); have q2 := flush_no q1 (by assumption) (by assumption); have q3 := q2.2; simp_all [sto_eta]; omega) | (have q1 : SD C := (by assumption); have q2 := flush_len q1 (by assumption); have q3 := flush_says q1 (by assumption); simp_all [sto_eta, idx_eta]; done) | (simp_all; done))), E⟩
 refine .r 1 <| .np 30 [.slice none 0 0, .slice none 0 0, .slice none 0 0, .slice none 0 0] fun ar d4 az aP bZ b0 => ?_
 have di := nb_new az J.lt
 have dj := nb_new az ab.lt
 have dk := E.cn az
 replace ⟨ac, ae, ag, ah, J, aj, ak, al, am, ab, V, W⟩ := (sn [ao, ai] aP az).g12 ac ae ag ah J aj ak al am ab V W
 replace ⟨O, Z, E⟩ := (sn [ao, ai] aP az).g3 O Z E
 clear aP b0 az
 refine .sc [.slice bF (((((flushP C).1).idx).names).length) bG, .slice bH (((((flushP C).1).idx).posts).length) bI, .slice bJ ((((flushP C).1).parts).length) bK, .slice bL ((((flushP C).1).mem).length) bM] bZ fun cF aQ af b6 => ?_
 replace ⟨ac, ae, ag, ah, J, aj, ak, al, am, ab, V, W⟩ := (so [ar, ao, ai] aQ).g12 ac ae ag ah J aj ak al am ab V W
 replace ⟨O, Z, E⟩ := (so [ar, ao, ai] aQ).g3 O Z E
 clear aQ b6
 refine .r 1 <| .d <| .s <| .s <| .g <| .r 2 <| RG.eqv (v := .bool false) (v' := .bool (true != true)) (by kernel_rfl) (by simp) <| .r 1 <| .ln af <| .ln ab <| .cl (c_laws_lyStore (⟨(⟨(((flushP C).1).idx).names, (((flushP C).1).idx).posts⟩ : Idx), ((flushP C).1).parts, ((flushP C).1).mem⟩ : Sto) (⟨(⟨(((flushP C).1).idx).names, (((flushP C).1).idx).posts⟩ : Idx), ((flushP C).1).parts, ((flushP C).1).mem⟩ : Sto) V.ta W.ta O.ta Z.ta aj.ta ak.ta al.ta am.ta (w := cF) (F := all)) ?_
 rintro d5 bP ⟨rfl, aR⟩
 replace ⟨ac, ae, ag, ah, J, aj, ak, al, am, ab, V, W⟩ := (se [ar, ao, ai] aR).g12 ac ae ag ah J aj ak al am ab V W
 replace ⟨O, Z, af, E⟩ := (se [ar, ao, ai] aR).g4 O Z af E
 clear aR
 cases dm : ((⟨(⟨(((flushP C).1).idx).names, (((flushP C).1).idx).posts⟩ : Idx), ((flushP C).1).parts, ((flushP C).1).mem⟩ : Sto) == (⟨(⟨(((flushP C).1).idx).names, (((flushP C).1).idx).posts⟩ : Idx), ((flushP C).1).parts, ((flushP C).1).mem⟩ : Sto))
 · refine .r 7 <| .d <| .ct <| .s <| .g <| .r 2 <| RG.eqv (v := .bool true) (v' := .bool (true == true)) (by kernel_rfl) (by simp) <| .r 1 <| .ln af <| .ln ab <| .cl (c_laws_lyStore (⟨(⟨(((flushP C).1).idx).names, (((flushP C).1).idx).posts⟩ : Idx), ((flushP C).1).parts, ((flushP C).1).mem⟩ : Sto) (⟨(⟨(((flushP C).1).idx).names, (((flushP C).1).idx).posts⟩ : Idx), ((flushP C).1).parts, ((flushP C).1).mem⟩ : Sto) V.ta W.ta O.ta Z.ta aj.ta ak.ta al.ta am.ta (w := bP) (F := all)) ?_
   rintro d6 d7 ⟨rfl, aS⟩
   replace ⟨ac, ae, ag, ah, J, aj, ak, al, am, ab, V, W⟩ := (se [ar, ao, ai] aS).g12 ac ae ag ah J aj ak al am ab V W
   replace ⟨O, Z, af, E⟩ := (se [ar, ao, ai] aS).g4 O Z af E
   clear aS
   exact .r 2 <| .d <| .rt Tryz.func9 Tryz.results9 (.bool ((⟨(⟨(((flushP C).1).idx).names, (((flushP C).1).idx).posts⟩ : Idx), ((flushP C).1).parts, ((flushP C).1).mem⟩ : Sto) == (⟨(⟨(((flushP C).1).idx).names, (((flushP C).1).idx).posts⟩ : Idx), ((flushP C).1).parts, ((flushP C).1).mem⟩ : Sto))) ⟨(congrArg Value.bool (by first | (have q1 : SD C := (by assumption); exact (flush_says q1 (by assumption)).2) | (have q1 : SD C := (by assumption); have q2 := flush_no q1 (by assumption) (by assumption); have q3 := q2.2; simp_all [sto_eta]; done) | (have q1 : SD C := (by assumption); have q2 := flush_no q1 (by assumption) (by assumption); have q3 := q2.2; simp_all [sto_eta]; omega) | (have q1 : SD C := (by assumption); have q2 := flush_len q1 (by assumption); have q3 := flush_says q1 (by assumption); simp_all [sto_eta, idx_eta]; done) | (simp_all; done))), E⟩
 refine .r 3 <| .ln J <| .cl (c_spec_StoreOk C ac.ta ae.ta ag.ta ah.ta (by have q1 : SD C := (by assumption); first | exact q1 | exact flush_sd q1 (by assumption)) (w := bP) (F := all)) ?_
 rintro d8 bi ⟨rfl, aT⟩
 replace ⟨ac, ae, ag, ah, J, aj, ak, al, am, ab, V, W⟩ := (se [ar, ao, ai] aT).g12 ac ae ag ah J aj ak al am ab V W
 replace ⟨O, Z, af, E⟩ := (se [ar, ao, ai] aT).g4 O Z af E
 clear aT
 cases dp : (storeOk C)
 · refine .r 2 <| .d <| .ct <| .s <| .g <| .r 2 <| RG.eqv (v := .bool true) (v' := .bool (true == true)) (by kernel_rfl) (by simp) <| .r 1 <| .ln af <| .ln ab <| .cl (c_laws_lyStore (⟨(⟨(((flushP C).1).idx).names, (((flushP C).1).idx).posts⟩ : Idx), ((flushP C).1).parts, ((flushP C).1).mem⟩ : Sto) (⟨(⟨(((flushP C).1).idx).names, (((flushP C).1).idx).posts⟩ : Idx), ((flushP C).1).parts, ((flushP C).1).mem⟩ : Sto) V.ta W.ta O.ta Z.ta aj.ta ak.ta al.ta am.ta (w := bi) (F := all)) ?_
   rintro d9 ea ⟨rfl, bj⟩
   replace ⟨ac, ae, ag, ah, J, V, W, O, Z, af, E⟩ := (se [ar, ao, ai] bj).g11 ac ae ag ah J V W O Z af E
   clear bj
   exact .r 2 <| .d <| .rt Tryz.func9 Tryz.results9 (.bool ((⟨(⟨(((flushP C).1).idx).names, (((flushP C).1).idx).posts⟩ : Idx), ((flushP C).1).parts, ((flushP C).1).mem⟩ : Sto) == (⟨(⟨(((flushP C).1).idx).names, (((flushP C).1).idx).posts⟩ : Idx), ((flushP C).1).parts, ((flushP C).1).mem⟩ : Sto))) ⟨(congrArg Value.bool (by first | (have q1 : SD C := (by assumption); exact (flush_says q1 (by assumption)).2) | (have q1 : SD C := (by assumption); have q2 := flush_no q1 (by assumption) (by assumption); have q3 := q2.2; simp_all [sto_eta]; done) | (have q1 : SD C := (by assumption); have q2 := flush_no q1 (by assumption) (by assumption); have q3 := q2.2; simp_all [sto_eta]; omega) | (have q1 : SD C := (by assumption); have q2 := flush_len q1 (by assumption); have q3 := flush_says q1 (by assumption); simp_all [sto_eta, idx_eta]; done) | (simp_all; done))), E⟩
 refine .r 2 <| .d <| .cf <| .sk <| .s <| .s <| .g <| .r 2 <| .d <| .cf <| .sk <| .s <| .s <| .g <| .r 1 <| .d <| .b 0 <| T.loop (X := Nat) 0 (fun k => [(3, .pointer (some ⟨ai, 0, none⟩)), (6, .pointer (some ⟨ar, 0, none⟩)), (8, vI (k : Int))]) (fun k ba => Chg (ins []) bi ba ∧ (k ≤ C.parts.length)) (fun k => C.parts.length - k) (by kernel_rfl) ⟨by kernel_rfl, by kernel_rfl, by kernel_rfl, trivial⟩ ⟨Chg.refl _ _, (by omega)⟩ ?_
 rintro k eb ba ⟨aw, dq⟩ bc
 have bk : Mv [ar, ao, ai] [ar, ao, ai] bi ba := Mv.inl aw all_nil (all_cons (.inl (.head _)) (all_cons (.inl (.tail _ (.head _))) (all_cons (.inl (.tail _ (.tail _ (.head _)))) all_nil)))
 replace ⟨ac, ae, ag, ah, J, V, W, O, Z, af, E⟩ := (sp bk aw).g11 ac ae ag ah J V W O Z af E
 clear bk
 refine .s <| .s <| .g <| .r 2 <| .lb J <| .r 1 <| .bp ((k : Int) < (C.parts.length : Int)) (fun b7 => ?_) (fun b7 => ?_)
 · refine .d <| .ct <| .sk <| .s <| .b 1 <| .s <| .gd nil 10 fun ec bm => ?_
   replace ⟨ac, ae, ag, ah, J, V, W, O, Z, af, E, aw⟩ := (se [ar, ao, ai] bm).g12 ac ae ag ah J V W O Z af E aw
   clear bm
   refine .r [0] <| .lb 1 af id <| .r [2] ?_
   have bn : k < (((flushP C).1).parts).length := (by first | omega | (have q1 : SD C := (by assumption); have q2 := (flush_len q1 (by assumption)).1; omega))
   refine GA.idx (i := 3) k (len := (((flushP C).1).parts).length) (z := (k : Int)) (sz := 2) (by kernel_rfl) (by first | omega | (have q1 : SD C := (by assumption); have q2 := (flush_len q1 (by assumption)).1; omega)) bn (O.addr (Nat.zero_lt_of_lt bn)) ?_
   obtain ⟨bo, aU⟩ : ∃ y, (((flushP C).1).parts)[k]? = some y := ⟨_, List.getElem?_eq_getElem (by first | omega | (have q1 : SD C := (by assumption); have q2 := (flush_len q1 (by assumption)).1; omega))⟩
   have dr := drop_at aU; have cG := List.mem_of_getElem? aU
   obtain ⟨_, ⟨ed, ee, ef, eg, eh, ei, rfl, aE, aF⟩, b8⟩ := O.elem k bo aU
   have b9 := aE.len
   subst b9
   have dt := aE.max
   have cd := aF.len
   subst cd
   have du := aF.max
   refine .lg 4 0 b8 id <| .r [5] <| .lb 6 J id <| .r [7] ?_
   have bq : k < C.parts.length := (by first | omega | (have q1 : SD C := (by assumption); have q2 := (flush_len q1 (by assumption)).1; omega))
   refine GA.idx (i := 8) k (len := C.parts.length) (z := (k : Int)) (sz := 2) (by kernel_rfl) (by first | omega | (have q1 : SD C := (by assumption); have q2 := (flush_len q1 (by assumption)).1; omega)) bq (ag.addr (Nat.zero_lt_of_lt bq)) ?_
   obtain ⟨br, aV⟩ : ∃ y, C.parts[k]? = some y := ⟨_, List.getElem?_eq_getElem (by first | omega | (have q1 : SD C := (by assumption); have q2 := (flush_len q1 (by assumption)).1; omega))⟩
   have dv := drop_at aV; have cH := List.mem_of_getElem? aV
   obtain ⟨_, ⟨ej, ek, em, en, eo, ep, rfl, aG, aH⟩, ce⟩ := ag.elem k br aV
   have cg := aG.len
   subst cg
   have dw := aG.max
   have ci := aH.len
   subst ci
   have dx := aH.max
   refine .lg 9 0 ce id <| .d fun cI aW => ?_
   replace ⟨ac, ae, ag, ah, J, V, W, O, Z, af, aE, aF⟩ := (se [ar, ao, ai] aW).g12 ac ae ag ah J V W O Z af aE aF
   replace ⟨aG, aH, E, aw⟩ := (se [ar, ao, ai] aW).g4 aG aH E aw
   clear aW
   refine .cl (c_laws_lyPart bo br aE.ta aF.ta aG.ta aH.ta (w := cI) (F := all)) ?_
   rintro es et ⟨rfl, bt⟩
   replace ⟨ac, ae, ag, ah, J, V, W, O, Z, af, E, aw⟩ := (se [ar, ao, ai] bt).g12 ac ae ag ah J V W O Z af E aw
   clear bt
   cases dy : (bo == br)
   · exact .r 1 <| .d <| .ct <| .s <| .g <| .r 1 <| .d <| .rt Tryz.func9 Tryz.results9 (.bool false) ⟨(congrArg Value.bool (by have q1 : SD C := (by assumption); exfalso; first | exact flush_f q1 (by assumption) (.inl (by assumption)) | exact flush_f q1 (by assumption) (.inr (by assumption)) | exact flush_part q1 (by assumption) (by assumption) (by assumption) (by assumption) | (have q2 := flush_no q1 (by assumption) (by assumption); have q3 := q2.2; simp_all [sto_eta]; done) | (have q2 := flush_no q1 (by assumption) (by assumption); have q3 := q2.2; simp_all [sto_eta]; omega) | (have q2 := flush_len q1 (by assumption); have q3 := flush_says q1 (by assumption); simp_all [sto_eta, idx_eta]; done) | (have q2 := flush_len q1 (by assumption); have q3 := congrArg List.length q2.2.1; simp at q3; omega) | (simp_all; done))), E⟩
   exact .r 1 <| .d <| .cf <| .sk <| .ib 1 <| .g <| .r 1 <| RG.int ((k : Int) + 1) (by kernel_rfl) (by first | omega | (have q1 : SD C := (by assumption); have q2 := q1.np; omega)) <| .r 1 <| .d <| bc (k + 1) _ _ ⟨by kernel_rfl, by kernel_rfl, by kernel_rfl, trivial⟩ ⟨aw, (by omega)⟩ (by first | omega | (simp only []; omega))
 refine .d <| .cf <| .x 0 rfl <| .s <| .g <| .r 1 <| .lb af <| .r 2 <| .lb J <| .r 1 <| RG.int ((C.parts.length : Int) + 1) (by kernel_rfl) (by first | omega | (have q1 : SD C := (by assumption); have q2 := q1.np; omega)) <| .eq (((((flushP C).1).parts).length) : Int) ((C.parts.length : Int) + 1) (fun cj => ?_) (fun cj => .r 23 <| .d <| .rt Tryz.func9 Tryz.results9 (.bool false) ⟨(congrArg Value.bool (by have q1 : SD C := (by assumption); exfalso; first | exact flush_f q1 (by assumption) (.inl (by assumption)) | exact flush_f q1 (by assumption) (.inr (by assumption)) | exact flush_part q1 (by assumption) (by assumption) (by assumption) (by assumption) | (have q2 := flush_no q1 (by assumption) (by assumption); have q3 := q2.2; simp_all [sto_eta]; done) | (have q2 := flush_no q1 (by assumption) (by assumption); have q3 := q2.2; simp_all [sto_eta]; omega) | (have q2 := flush_len q1 (by assumption); have q3 := flush_says q1 (by assumption); simp_all [sto_eta, idx_eta]; done) | (have q2 := flush_len q1 (by assumption); have q3 := congrArg List.length q2.2.1; simp at q3; omega) | (simp_all; done))), E⟩)
 refine .r 2 <| .lb af <| .r 1 <| .eq (((((flushP C).1).mem).length) : Int) 0 (fun ck => ?_) (fun ck => .r 18 <| .d <| .rt Tryz.func9 Tryz.results9 (.bool false) ⟨(congrArg Value.bool (by have q1 : SD C := (by assumption); exfalso; first | exact flush_f q1 (by assumption) (.inl (by assumption)) | exact flush_f q1 (by assumption) (.inr (by assumption)) | exact flush_part q1 (by assumption) (by assumption) (by assumption) (by assumption) | (have q2 := flush_no q1 (by assumption) (by assumption); have q3 := q2.2; simp_all [sto_eta]; done) | (have q2 := flush_no q1 (by assumption) (by assumption); have q3 := q2.2; simp_all [sto_eta]; omega) | (have q2 := flush_len q1 (by assumption); have q3 := flush_says q1 (by assumption); simp_all [sto_eta, idx_eta]; done) | (have q2 := flush_len q1 (by assumption); have q3 := congrArg List.length q2.2.1; simp at q3; omega) | (simp_all; done))), E⟩)
 refine .r 2 <| .ln af <| .ln J <| .cl (c_laws_lySays (⟨(⟨(((flushP C).1).idx).names, (((flushP C).1).idx).posts⟩ : Idx), ((flushP C).1).parts, ((flushP C).1).mem⟩ : Sto) C V.ta W.ta O.ta Z.ta ac.ta ae.ta ag.ta ah.ta (by have q1 : SD C := (by assumption); first | exact q1 | exact flush_sd q1 (by assumption)) (by have q1 : SD C := (by assumption); first | exact q1 | exact flush_sd q1 (by assumption)) (w := ba) (F := all)) ?_
 rintro ew cJ ⟨rfl, bu⟩
 replace ⟨ac, ae, J, V, W, O, Z, af, E⟩ := (se [ar, ao, ai] bu).g9 ac ae J V W O Z af E
 clear bu
 cases dz : (askS (⟨(⟨(((flushP C).1).idx).names, (((flushP C).1).idx).posts⟩ : Idx), ((flushP C).1).parts, ((flushP C).1).mem⟩ : Sto) [] 0 99 == askS C [] 0 99)
 · exact .r 13 <| .d <| .rt Tryz.func9 Tryz.results9 (.bool false) ⟨(congrArg Value.bool (by have q1 : SD C := (by assumption); exfalso; first | exact flush_f q1 (by assumption) (.inl (by assumption)) | exact flush_f q1 (by assumption) (.inr (by assumption)) | exact flush_part q1 (by assumption) (by assumption) (by assumption) (by assumption) | (have q2 := flush_no q1 (by assumption) (by assumption); have q3 := q2.2; simp_all [sto_eta]; done) | (have q2 := flush_no q1 (by assumption) (by assumption); have q3 := q2.2; simp_all [sto_eta]; omega) | (have q2 := flush_len q1 (by assumption); have q3 := flush_says q1 (by assumption); simp_all [sto_eta, idx_eta]; done) | (have q2 := flush_len q1 (by assumption); have q3 := congrArg List.length q2.2.1; simp at q3; omega) | (simp_all; done))), E⟩
 refine .r 3 <| .ln af <| .r 1 <| .ln J <| .cl (c_laws_lyIndex (((flushP C).1).idx) C.idx V.ta W.ta ac.ta ae.ta (w := cJ) (F := all)) ?_
 rintro ex cK ⟨rfl, bv⟩
 replace ⟨V, W, O, Z, af, E⟩ := (se [ar, ao, ai] bv).g6 V W O Z af E
 clear bv
 cases dA : ((((flushP C).1).idx) == C.idx)
 · exact .r 6 <| .d <| .rt Tryz.func9 Tryz.results9 (.bool false) ⟨(congrArg Value.bool (by have q1 : SD C := (by assumption); exfalso; first | exact flush_f q1 (by assumption) (.inl (by assumption)) | exact flush_f q1 (by assumption) (.inr (by assumption)) | exact flush_part q1 (by assumption) (by assumption) (by assumption) (by assumption) | (have q2 := flush_no q1 (by assumption) (by assumption); have q3 := q2.2; simp_all [sto_eta]; done) | (have q2 := flush_no q1 (by assumption) (by assumption); have q3 := q2.2; simp_all [sto_eta]; omega) | (have q2 := flush_len q1 (by assumption); have q3 := flush_says q1 (by assumption); simp_all [sto_eta, idx_eta]; done) | (have q2 := flush_len q1 (by assumption); have q3 := congrArg List.length q2.2.1; simp at q3; omega) | (simp_all; done))), E⟩
 refine .r 2 <| .ln af <| .cl (c_impl_StoreOk (⟨(⟨(((flushP C).1).idx).names, (((flushP C).1).idx).posts⟩ : Idx), ((flushP C).1).parts, ((flushP C).1).mem⟩ : Sto) V.ta W.ta O.ta Z.ta (by have q1 : SD C := (by assumption); first | exact q1 | exact flush_sd q1 (by assumption)) (w := cK) (F := all)) ?_
 rintro ey ez ⟨rfl, bw⟩
 replace E := (se [] bw).g1 E
 clear bw
 exact .r 2 <| .d <| .rt Tryz.func9 Tryz.results9 (.bool (storeOk (⟨(⟨(((flushP C).1).idx).names, (((flushP C).1).idx).posts⟩ : Idx), ((flushP C).1).parts, ((flushP C).1).mem⟩ : Sto))) ⟨(congrArg Value.bool (by first | (have q1 : SD C := (by assumption); exact (flush_says q1 (by assumption)).2) | (have q1 : SD C := (by assumption); have q2 := flush_no q1 (by assumption) (by assumption); have q3 := q2.2; simp_all [sto_eta]; done) | (have q1 : SD C := (by assumption); have q2 := flush_no q1 (by assumption) (by assumption); have q3 := q2.2; simp_all [sto_eta]; omega) | (have q1 : SD C := (by assumption); have q2 := flush_len q1 (by assumption); have q3 := flush_says q1 (by assumption); simp_all [sto_eta, idx_eta]; done) | (simp_all; done))), E⟩
end Go.Proofs.YtfnpaglcnmcnbaaGreat
