/- walks; squeezed -/
import Derived.Test.YtfnpaglcnmcnbaaGreatAskzMod31
set_option linter.unusedVariables false
set_option linter.unusedSimpArgs false
namespace Go.Proofs.YtfnpaglcnmcnbaaGreat
set_option maxRecDepth 100000
set_option maxHeartbeats 4000000
theorem c_laws_FnAskCut (code : List UInt8) (more : List UInt8) {w : World} {F : Nat → Prop} {a1 : Option Addr} {n1 c1 : Nat} (h1 : RepS w F a1 n1 c1 code) {a2 : Option Addr} {n2 c2 : Nat} (h2 : RepS w F a2 n2 c2 more)  : Calls Tryz.prog 6 [.slice a1 n1 c1, .slice a2 n2 c2].toArray w (rets fun rv w' => rv = .bool (true) ∧ Ext w w') := by
 refine goT Tryz.func6 ?_
 obtain ⟨rfl, dh, h1⟩ := h1.tp
 obtain ⟨rfl, di, h2⟩ := h2.tp
 refine .s <| .g <| .r 1 <| .d <| .s <| .s <| .g <| .r 2 <| .bp ((code.length : Int) > 1048576) (fun co => .r 5 <| .d <| .ct <| .s <| .g <| .r 1 <| .d <| .rt Tryz.func6 Tryz.results6 (.bool true) ⟨(congrArg Value.bool (by rfl)), (Chg.refl _ _)⟩) fun co => .r 3 <| .bp ((more.length : Int) > 1048576) (fun cp => .r 1 <| .d <| .ct <| .s <| .g <| .r 1 <| .d <| .rt Tryz.func6 Tryz.results6 (.bool true) ⟨(congrArg Value.bool (by rfl)), (Chg.refl _ _)⟩) fun cp => .r 1 <| .d <| .cf <| .sk <| .s <| .g <| .r 1 <| .cl (c_spec_DrawStoreAsk code h1 (w := w) (F := nin (fo F w.heap.size) [])) ?_
 rintro d4 d5 ⟨⟨E, C, W, Z, ⟨d6, d7, rfl, ⟨_, rfl, ⟨cJ, d8, cK, cL, d9, cM, cN, ea, cO, cP, eb, cQ, rfl, aa, ab, ac, ae⟩⟩, ⟨ec, ed, rfl, af⟩⟩, dj⟩, bw⟩
 have ar : ∀ q_ ∈ ([] : List Nat), q_ < w.heap.size := all_nil
 have av : Gb w.heap.size w.heap.size := (Nat.le_refl _)
 have J := bw
 clear bw
 replace aa := RepS.mixed' (M := []) aa ar av
 have dk := aa.max
 replace ab := RepS.mixed' (M := []) ab ar av
 have dm := ab.max
 replace ac := RepS.mixed' (M := []) ac ar av
 have dp := ac.max
 replace ae := RepS.mixed' (M := []) ae ar av
 have dq := ae.max
 replace af := RepS.mixed' (M := []) af ar av
 have dr := af.max
 clear ar
 have cq := aa.len
 subst cq
 have cr := ab.len
 subst cr
 have cu := ac.len
 subst cu
 have cv := ae.len
 subst cv
 refine .r 5 <| .np 30 [.slice none 0 0, .slice none 0 0, .slice none 0 0, .slice none 0 0] fun ai ee aL bz cw cx => ?_
 have dt := J.cn aL
 replace ⟨aa, ab, ac, ae, af, J⟩ := (sn [] bz aL).g6 aa ab ac ae af J
 clear bz cx aL
 refine .sc [.slice cJ E.idx.names.length cK, .slice cL E.idx.posts.length cM, .slice cN E.parts.length cO, .slice cP E.mem.length cQ] cw fun cy bA O cz => ?_
 replace ⟨aa, ab, ac, ae, af, J⟩ := (so [ai] bA).g6 aa ab ac ae af J
 clear bA cz
 refine .r 3 <| .d <| .s <| .g <| .ln O <| .r 3 <| .cl (c_impl_StoreAsk E C W Z aa.ta ab.ta ac.ta ae.ta af.ta (by have V : SD _ ∧ (_ ∧ _) ∧ (_ ∧ _) := (by assumption); exact V.1) (w := cy) (F := all)) ?_
 rintro ef cA ⟨⟨bO, bP, rfl, ah⟩, bB⟩
 have bC := al1 O.lt
 have cB : Gb w.heap.size cy.heap.size := J.size
 replace ⟨aa, ab, ac, ae, af, O, J⟩ := (se [ai] bB).g7 aa ab ac ae af O J
 clear bB
 have ah := ah.fr bC cB
 replace ah := ah.base (G' := fo F w.heap.size) (fun _ _ h => .inr h)
 have du := ah.max
 clear bC
 refine .r 1 <| .d <| .s <| .s <| .g <| .r 1 <| .ln O <| .r 3 <| .cl (c_spec_StoreAsk E C W Z aa.ta ab.ta ac.ta ae.ta af.ta (by have V : SD _ ∧ (_ ∧ _) ∧ (_ ∧ _) := (by assumption); exact V.1) (w := cA) (F := all)) ?_
 rintro eg cR ⟨⟨eh, ei, rfl, aM⟩, bD⟩
 have bE := al1 O.lt
 have cC : Gb w.heap.size cA.heap.size := J.size
 replace ⟨aa, ab, ac, ae, af, O, ah, J⟩ := (se [ai] bD).g8 aa ab ac ae af O ah J
 clear bD
 have aM := aM.fr bE cC
 replace aM := aM.base (G' := fo F w.heap.size) (fun _ _ h => .inr h)
 clear bE
 refine .cl (c_laws_lyHits (askS E C W Z) (askS E C W Z) ah.ta aM.ta (w := cR) (F := all)) ?_
 rintro ej bQ ⟨rfl, bF⟩
 replace ⟨aa, ab, ac, ae, af, O, ah, J⟩ := (se [ai] bF).g8 aa ab ac ae af O ah J
 clear bF
 cases dv : ((askS E C W Z) == (askS E C W Z))
 · refine .r 11 <| .d <| .ct <| .s <| .g <| .r 1 <| .ln O <| .r 3 <| .cl (c_spec_StoreAsk E C W Z aa.ta ab.ta ac.ta ae.ta af.ta (by have V : SD _ ∧ (_ ∧ _) ∧ (_ ∧ _) := (by assumption); exact V.1) (w := bQ) (F := all)) ?_
   rintro dw cD ⟨⟨dx, dy, rfl, aw⟩, aN⟩
   have aO := al1 O.lt
   have bR : Gb w.heap.size bQ.heap.size := J.size
   replace ⟨aa, ab, ac, ae, af, O, ah, J⟩ := (se [ai] aN).g8 aa ab ac ae af O ah J
   clear aN
   have aw := aw.fr aO bR
   replace aw := aw.base (G' := fo F w.heap.size) (fun _ _ h => .inr h)
   clear aO
   refine .cl (c_laws_lyHits (askS E C W Z) (askS E C W Z) ah.ta aw.ta (w := cD) (F := all)) ?_
   rintro dz dA ⟨rfl, aP⟩
   replace ⟨aa, ab, ac, ae, af, O, ah, J⟩ := (se [ai] aP).g8 aa ab ac ae af O ah J
   clear aP
   exact .r 1 <| .d <| .rt Tryz.func6 Tryz.results6 (.bool ((askS E C W Z) == (askS E C W Z))) ⟨(congrArg Value.bool (by first | (have V : SD _ ∧ (_ ∧ _) ∧ (_ ∧ _) := (by assumption); have q2 := ask_cut (s := E) (f := C) (tm_lt2 more.length); have q3 := ask_le (f := C) V.1 W Z; have q5 := rowsN_all (l := (askS E C ((Int.tmod (more.length : Int) 100) + 1) 99)) (i := k1) (by omega); simp; omega) | (simp_all; done))), J⟩
 refine .r 2 <| .ln O <| .cl (c_spec_StoreOk E aa.ta ab.ta ac.ta ae.ta (by have V : SD _ ∧ (_ ∧ _) ∧ (_ ∧ _) := (by assumption); exact V.1) (w := bQ) (F := all)) ?_
 rintro dB aQ ⟨rfl, aR⟩
 replace ⟨aa, ab, ac, ae, af, O, ah, J⟩ := (se [ai] aR).g8 aa ab ac ae af O ah J
 clear aR
 cases cS : (storeOk E)
 · refine .r 7 <| .d <| .ct <| .s <| .g <| .r 1 <| .ln O <| .r 3 <| .cl (c_spec_StoreAsk E C W Z aa.ta ab.ta ac.ta ae.ta af.ta (by have V : SD _ ∧ (_ ∧ _) ∧ (_ ∧ _) := (by assumption); exact V.1) (w := aQ) (F := all)) ?_
   rintro dC cE ⟨⟨dD, dE, rfl, ax⟩, aS⟩
   have aT := al1 O.lt
   have bS : Gb w.heap.size aQ.heap.size := J.size
   replace ⟨aa, ab, ac, ae, af, O, ah, J⟩ := (se [ai] aS).g8 aa ab ac ae af O ah J
   clear aS
   have ax := ax.fr aT bS
   replace ax := ax.base (G' := fo F w.heap.size) (fun _ _ h => .inr h)
   clear aT
   refine .cl (c_laws_lyHits (askS E C W Z) (askS E C W Z) ah.ta ax.ta (w := cE) (F := all)) ?_
   rintro dF dG ⟨rfl, aU⟩
   replace ⟨aa, ab, ac, ae, af, O, ah, J⟩ := (se [ai] aU).g8 aa ab ac ae af O ah J
   clear aU
   exact .r 1 <| .d <| .rt Tryz.func6 Tryz.results6 (.bool ((askS E C W Z) == (askS E C W Z))) ⟨(congrArg Value.bool (by first | (have V : SD _ ∧ (_ ∧ _) ∧ (_ ∧ _) := (by assumption); have q2 := ask_cut (s := E) (f := C) (tm_lt2 more.length); have q3 := ask_le (f := C) V.1 W Z; have q5 := rowsN_all (l := (askS E C ((Int.tmod (more.length : Int) 100) + 1) 99)) (i := k1) (by omega); simp; omega) | (simp_all; done))), J⟩
 refine .r 4 <| .cl (c_spec_FilterOk C af.ta (w := aQ) (F := all)) ?_
 rintro dH aH ⟨rfl, aV⟩
 replace ⟨aa, ab, ac, ae, af, O, ah, J⟩ := (se [ai] aV).g8 aa ab ac ae af O ah J
 clear aV
 cases cT : (filtOk C)
 · refine .r 2 <| .d <| .ct <| .s <| .g <| .r 1 <| .ln O <| .r 3 <| .cl (c_spec_StoreAsk E C W Z aa.ta ab.ta ac.ta ae.ta af.ta (by have V : SD _ ∧ (_ ∧ _) ∧ (_ ∧ _) := (by assumption); exact V.1) (w := aH) (F := all)) ?_
   rintro dI cF ⟨⟨dJ, dK, rfl, ay⟩, aW⟩
   have aX := al1 O.lt
   have bT : Gb w.heap.size aH.heap.size := J.size
   replace ⟨aa, ab, ac, ae, af, O, ah, J⟩ := (se [ai] aW).g8 aa ab ac ae af O ah J
   clear aW
   have ay := ay.fr aX bT
   replace ay := ay.base (G' := fo F w.heap.size) (fun _ _ h => .inr h)
   clear aX
   refine .cl (c_laws_lyHits (askS E C W Z) (askS E C W Z) ah.ta ay.ta (w := cF) (F := all)) ?_
   rintro dL dM ⟨rfl, aY⟩
   replace ⟨aa, ab, ac, ae, af, O, J⟩ := (se [ai] aY).g7 aa ab ac ae af O J
   clear aY
   exact .r 1 <| .d <| .rt Tryz.func6 Tryz.results6 (.bool ((askS E C W Z) == (askS E C W Z))) ⟨(congrArg Value.bool (by first | (have V : SD _ ∧ (_ ∧ _) ∧ (_ ∧ _) := (by assumption); have q2 := ask_cut (s := E) (f := C) (tm_lt2 more.length); have q3 := ask_le (f := C) V.1 W Z; have q5 := rowsN_all (l := (askS E C ((Int.tmod (more.length : Int) 100) + 1) 99)) (i := k1) (by omega); simp; omega) | (simp_all; done))), J⟩
 refine .r 2 <| .d <| .cf <| .sk <| .s <| .g <| .r 4 <| .d <| .s <| .g <| .ln O <| .r 1 <| .cl (c_impl_StoreAsk E C 0 99 aa.ta ab.ta ac.ta ae.ta af.ta (by have V : SD _ ∧ (_ ∧ _) ∧ (_ ∧ _) := (by assumption); exact V.1) (w := aH) (F := all)) ?_
 rintro dN bG ⟨⟨aZ, ba, rfl, aj⟩, bc⟩
 have bd := al1 O.lt
 have bU : Gb w.heap.size aH.heap.size := J.size
 replace ⟨aa, ab, ac, ae, af, O, J⟩ := (se [ai] bc).g7 aa ab ac ae af O J
 clear bc
 have aj := aj.fr bd bU
 replace aj := aj.base (G' := fo F w.heap.size) (fun _ _ h => .inr h)
 have cU := aj.max
 clear bd
 refine .r 1 <| .d <| .s <| .g <| .ln O <| .r 2 <| .cl (c_impl_StoreAsk E C 0 (Int.tmod (more.length : Int) 100) aa.ta ab.ta ac.ta ae.ta af.ta (by have V : SD _ ∧ (_ ∧ _) ∧ (_ ∧ _) := (by assumption); exact V.1) (w := bG) (F := all)) ?_
 rintro dO bH ⟨⟨bI, bJ, rfl, ak⟩, bg⟩
 have bh := al1 O.lt
 have bV : Gb w.heap.size bG.heap.size := J.size
 replace ⟨aa, ab, ac, ae, af, O, aj, J⟩ := (se [ai] bg).g8 aa ab ac ae af O aj J
 clear bg
 have ak := ak.fr bh bV
 replace ak := ak.base (G' := fo F w.heap.size) (fun _ _ h => .inr h)
 have cV := ak.max
 clear bh
 refine .r 1 <| .d <| .s <| .g <| .ln O <| .r 2 <| RG.int (Int.tmod (more.length : Int) 100 + 1) (by kernel_rfl) (by have V : SD _ ∧ (_ ∧ _) ∧ (_ ∧ _) := (by assumption); have q7 := tm_lt2 more.length; first | omega | (have q2 := ask_bnd (f := C) V.1 0 99 k1; have q4 := ask_rows V.1 (by assumption : _ ∈ askS _ _ _ _); omega) | (have q5 := ask_bnd (f := C) V.1 0 99 (askS E C 0 99).length; rw [List.take_of_length_le (Nat.le_refl _)] at q5; have q6 := ask_bnd (f := C) V.1 0 (Int.tmod (more.length : Int) 100) (askS E C 0 (Int.tmod (more.length : Int) 100)).length; rw [List.take_of_length_le (Nat.le_refl _)] at q6; have q2 := ask_bnd (f := C) V.1 0 (Int.tmod (more.length : Int) 100) k1; have q4 := ask_rows V.1 (by assumption : _ ∈ askS _ _ _ _); omega) | (have q5 := ask_bnd (f := C) V.1 0 99 (askS E C 0 99).length; rw [List.take_of_length_le (Nat.le_refl _)] at q5; have q6 := ask_bnd (f := C) V.1 0 (Int.tmod (more.length : Int) 100) (askS E C 0 (Int.tmod (more.length : Int) 100)).length; rw [List.take_of_length_le (Nat.le_refl _)] at q6; have q2 := ask_bnd (f := C) V.1 ((Int.tmod (more.length : Int) 100) + 1) 99 k1; have q4 := ask_rows V.1 (by assumption : _ ∈ askS _ _ _ _); omega)) <| .cl (c_impl_StoreAsk E C (Int.tmod (more.length : Int) 100 + 1) 99 aa.ta ab.ta ac.ta ae.ta af.ta (by have V : SD _ ∧ (_ ∧ _) ∧ (_ ∧ _) := (by assumption); exact V.1) (w := bH) (F := all)) ?_
 rintro dP bK ⟨⟨bi, bj, rfl, al⟩, bk⟩
 have bm := al1 O.lt
 have bW : Gb w.heap.size bH.heap.size := J.size
 replace ⟨aj, ak, J⟩ := (se [ai] bk).g3 aj ak J
 clear bk
 have al := al.fr bm bW
 replace al := al.base (G' := fo F w.heap.size) (fun _ _ h => .inr h)
 have cW := al.max
 clear bm
 refine .r 1 <| .d <| .s <| .g <| .r 1 <| .d <| .s <| .s <| .g <| .r 1 <| .d <| .b 0 <| T.loop (X := Int × Nat) (0, 0) (fun (k, k1) => [(9, .slice bO ((askS E C W Z).length) bP), (11, .slice aZ ((askS E C 0 99).length) ba), (12, .slice bI ((askS E C 0 (Int.tmod (more.length : Int) 100)).length) bJ), (13, .slice bi ((askS E C (Int.tmod (more.length : Int) 100 + 1) 99).length) bj), (14, vI k), (15, vI (k1 : Int))]) (fun (k, k1) az => Chg (ins []) bK az ∧ (k1 ≤ (askS E C 0 99).length) ∧ (k = 0 + (rowsN ((askS E C 0 99).take k1) : Int))) (fun (k, k1) => (askS E C 0 99).length - k1) (by kernel_rfl) ⟨by kernel_rfl, by kernel_rfl, by kernel_rfl, by kernel_rfl, by kernel_rfl, by kernel_rfl, trivial⟩ ⟨Chg.refl _ _, (by omega), (by simp [rowsN])⟩ ?_
 rintro ⟨k, k1⟩ dQ az ⟨aB, cX, cY⟩ aI
 have bn : Mv [ai] [ai] bK az := Mv.inl aB all_nil (all_cons (.inl (.head _)) all_nil)
 replace ⟨aj, ak, al, J⟩ := (sp bn aB).g4 aj ak al J
 clear bn
 refine .s <| .s <| .g <| .r 3 <| .bp ((k1 : Int) < (((askS E C 0 99).length) : Int)) (fun bX => ?_) (fun bX => ?_)
 · refine .d <| .ct <| .sk <| .s <| .b 1 <| .g <| .r 3 ?_
   have bY : k1 < (askS E C 0 99).length := (by omega)
   refine .ix k1 2 aj bY <| .r 1 ?_
   obtain ⟨bo, aC⟩ : ∃ y, (askS E C 0 99)[k1]? = some y := ⟨_, List.getElem?_eq_getElem (by omega)⟩
   have cZ := drop_at aC; have cG := List.mem_of_getElem? aC
   obtain ⟨_, ⟨dR, dS, dT, rfl, bL⟩, bZ⟩ := aj.elem k1 bo aC
   have b0 := bL.len
   subst b0
   have c7 := bL.max
   exact .lh 1 bZ <| .r 1 <| RG.int (k + (bo.rows.length : Int)) (by kernel_rfl) (by have V : SD _ ∧ (_ ∧ _) ∧ (_ ∧ _) := (by assumption); have q7 := tm_lt2 more.length; first | omega | (have q2 := ask_bnd (f := C) V.1 0 99 k1; have q4 := ask_rows V.1 (by assumption : _ ∈ askS _ _ _ _); omega) | (have q5 := ask_bnd (f := C) V.1 0 99 (askS E C 0 99).length; rw [List.take_of_length_le (Nat.le_refl _)] at q5; have q6 := ask_bnd (f := C) V.1 0 (Int.tmod (more.length : Int) 100) (askS E C 0 (Int.tmod (more.length : Int) 100)).length; rw [List.take_of_length_le (Nat.le_refl _)] at q6; have q2 := ask_bnd (f := C) V.1 0 (Int.tmod (more.length : Int) 100) k1; have q4 := ask_rows V.1 (by assumption : _ ∈ askS _ _ _ _); omega) | (have q5 := ask_bnd (f := C) V.1 0 99 (askS E C 0 99).length; rw [List.take_of_length_le (Nat.le_refl _)] at q5; have q6 := ask_bnd (f := C) V.1 0 (Int.tmod (more.length : Int) 100) (askS E C 0 (Int.tmod (more.length : Int) 100)).length; rw [List.take_of_length_le (Nat.le_refl _)] at q6; have q2 := ask_bnd (f := C) V.1 ((Int.tmod (more.length : Int) 100) + 1) 99 k1; have q4 := ask_rows V.1 (by assumption : _ ∈ askS _ _ _ _); omega)) <| .r 1 <| .d <| .ib 1 <| .g <| .r 1 <| RG.int ((k1 : Int) + 1) (by kernel_rfl) (by have V : SD _ ∧ (_ ∧ _) ∧ (_ ∧ _) := (by assumption); have q7 := tm_lt2 more.length; first | omega | (have q2 := ask_bnd (f := C) V.1 0 99 k1; have q4 := ask_rows V.1 (by assumption : _ ∈ askS _ _ _ _); omega) | (have q5 := ask_bnd (f := C) V.1 0 99 (askS E C 0 99).length; rw [List.take_of_length_le (Nat.le_refl _)] at q5; have q6 := ask_bnd (f := C) V.1 0 (Int.tmod (more.length : Int) 100) (askS E C 0 (Int.tmod (more.length : Int) 100)).length; rw [List.take_of_length_le (Nat.le_refl _)] at q6; have q2 := ask_bnd (f := C) V.1 0 (Int.tmod (more.length : Int) 100) k1; have q4 := ask_rows V.1 (by assumption : _ ∈ askS _ _ _ _); omega) | (have q5 := ask_bnd (f := C) V.1 0 99 (askS E C 0 99).length; rw [List.take_of_length_le (Nat.le_refl _)] at q5; have q6 := ask_bnd (f := C) V.1 0 (Int.tmod (more.length : Int) 100) (askS E C 0 (Int.tmod (more.length : Int) 100)).length; rw [List.take_of_length_le (Nat.le_refl _)] at q6; have q2 := ask_bnd (f := C) V.1 ((Int.tmod (more.length : Int) 100) + 1) 99 k1; have q4 := ask_rows V.1 (by assumption : _ ∈ askS _ _ _ _); omega)) <| .r 1 <| .d <| aI (k + (bo.rows.length : Int), k1 + 1) _ _ ⟨by kernel_rfl, by kernel_rfl, by kernel_rfl, by kernel_rfl, by kernel_rfl, by kernel_rfl, trivial⟩ ⟨aB, (by omega), (by rw [rowsN_take (by assumption)]; omega)⟩ (by first | omega | (simp only []; omega))
 refine .d <| .cf <| .x 0 rfl <| .s <| .s <| .g <| .r 1 <| .d <| .b 2 <| T.loop (X := Int × Nat) (k, 0) (fun (k, k1) => [(9, .slice bO ((askS E C W Z).length) bP), (11, .slice aZ ((askS E C 0 99).length) ba), (12, .slice bI ((askS E C 0 (Int.tmod (more.length : Int) 100)).length) bJ), (13, .slice bi ((askS E C (Int.tmod (more.length : Int) 100 + 1) 99).length) bj), (14, vI k), (16, vI (k1 : Int))]) (fun (k, k1) aA => Chg (ins []) az aA ∧ (k1 ≤ (askS E C 0 (Int.tmod (more.length : Int) 100)).length) ∧ (k = (rowsN (askS E C 0 99) : Int) - (rowsN ((askS E C 0 (Int.tmod (more.length : Int) 100)).take k1) : Int))) (fun (k, k1) => (askS E C 0 (Int.tmod (more.length : Int) 100)).length - k1) (by kernel_rfl) ⟨by kernel_rfl, by kernel_rfl, by kernel_rfl, by kernel_rfl, by kernel_rfl, by kernel_rfl, trivial⟩ ⟨Chg.refl _ _, (by omega), (by have q2 := rowsN_all (l := (askS E C 0 99)) (i := k1) (by omega); have q3 : rowsN (List.take 0 (askS E C 0 (Int.tmod (more.length : Int) 100))) = 0 := rfl; omega)⟩ ?_
 rintro ⟨k, k1⟩ dU aA ⟨aD, c8, c9⟩ aJ
 have bq : Mv [ai] [ai] az aA := Mv.inl aD all_nil (all_cons (.inl (.head _)) all_nil)
 replace ⟨ak, al, J⟩ := (sp bq aD).g3 ak al J
 clear bq
 refine .s <| .s <| .g <| .r 3 <| .bp ((k1 : Int) < (((askS E C 0 (Int.tmod (more.length : Int) 100)).length) : Int)) (fun b6 => ?_) (fun b6 => ?_)
 · refine .d <| .ct <| .sk <| .s <| .b 3 <| .g <| .r 3 ?_
   have b7 : k1 < (askS E C 0 (Int.tmod (more.length : Int) 100)).length := (by omega)
   refine .ix k1 2 ak b7 <| .r 1 ?_
   obtain ⟨br, aE⟩ : ∃ y, (askS E C 0 (Int.tmod (more.length : Int) 100))[k1]? = some y := ⟨_, List.getElem?_eq_getElem (by omega)⟩
   have da := drop_at aE; have cH := List.mem_of_getElem? aE
   obtain ⟨_, ⟨dV, dW, dX, rfl, bM⟩, b8⟩ := ak.elem k1 br aE
   have b9 := bM.len
   subst b9
   have db := bM.max
   exact .lh 1 b8 <| .r 1 <| RG.int (k - (br.rows.length : Int)) (by kernel_rfl) (by have V : SD _ ∧ (_ ∧ _) ∧ (_ ∧ _) := (by assumption); have q7 := tm_lt2 more.length; first | omega | (have q2 := ask_bnd (f := C) V.1 0 99 k1; have q4 := ask_rows V.1 (by assumption : _ ∈ askS _ _ _ _); omega) | (have q5 := ask_bnd (f := C) V.1 0 99 (askS E C 0 99).length; rw [List.take_of_length_le (Nat.le_refl _)] at q5; have q6 := ask_bnd (f := C) V.1 0 (Int.tmod (more.length : Int) 100) (askS E C 0 (Int.tmod (more.length : Int) 100)).length; rw [List.take_of_length_le (Nat.le_refl _)] at q6; have q2 := ask_bnd (f := C) V.1 0 (Int.tmod (more.length : Int) 100) k1; have q4 := ask_rows V.1 (by assumption : _ ∈ askS _ _ _ _); omega) | (have q5 := ask_bnd (f := C) V.1 0 99 (askS E C 0 99).length; rw [List.take_of_length_le (Nat.le_refl _)] at q5; have q6 := ask_bnd (f := C) V.1 0 (Int.tmod (more.length : Int) 100) (askS E C 0 (Int.tmod (more.length : Int) 100)).length; rw [List.take_of_length_le (Nat.le_refl _)] at q6; have q2 := ask_bnd (f := C) V.1 ((Int.tmod (more.length : Int) 100) + 1) 99 k1; have q4 := ask_rows V.1 (by assumption : _ ∈ askS _ _ _ _); omega)) <| .r 1 <| .d <| .ib 3 <| .g <| .r 1 <| RG.int ((k1 : Int) + 1) (by kernel_rfl) (by have V : SD _ ∧ (_ ∧ _) ∧ (_ ∧ _) := (by assumption); have q7 := tm_lt2 more.length; first | omega | (have q2 := ask_bnd (f := C) V.1 0 99 k1; have q4 := ask_rows V.1 (by assumption : _ ∈ askS _ _ _ _); omega) | (have q5 := ask_bnd (f := C) V.1 0 99 (askS E C 0 99).length; rw [List.take_of_length_le (Nat.le_refl _)] at q5; have q6 := ask_bnd (f := C) V.1 0 (Int.tmod (more.length : Int) 100) (askS E C 0 (Int.tmod (more.length : Int) 100)).length; rw [List.take_of_length_le (Nat.le_refl _)] at q6; have q2 := ask_bnd (f := C) V.1 0 (Int.tmod (more.length : Int) 100) k1; have q4 := ask_rows V.1 (by assumption : _ ∈ askS _ _ _ _); omega) | (have q5 := ask_bnd (f := C) V.1 0 99 (askS E C 0 99).length; rw [List.take_of_length_le (Nat.le_refl _)] at q5; have q6 := ask_bnd (f := C) V.1 0 (Int.tmod (more.length : Int) 100) (askS E C 0 (Int.tmod (more.length : Int) 100)).length; rw [List.take_of_length_le (Nat.le_refl _)] at q6; have q2 := ask_bnd (f := C) V.1 ((Int.tmod (more.length : Int) 100) + 1) 99 k1; have q4 := ask_rows V.1 (by assumption : _ ∈ askS _ _ _ _); omega)) <| .r 1 <| .d <| aJ (k - (br.rows.length : Int), k1 + 1) _ _ ⟨by kernel_rfl, by kernel_rfl, by kernel_rfl, by kernel_rfl, by kernel_rfl, by kernel_rfl, trivial⟩ ⟨aD, (by omega), (by rw [rowsN_take (by assumption)]; omega)⟩ (by first | omega | (simp only []; omega))
 refine .d <| .cf <| .x 2 rfl <| .s <| .s <| .g <| .r 1 <| .d <| .b 4 <| T.loop (X := Int × Nat) (k, 0) (fun (k, k1) => [(9, .slice bO ((askS E C W Z).length) bP), (11, .slice aZ ((askS E C 0 99).length) ba), (13, .slice bi ((askS E C (Int.tmod (more.length : Int) 100 + 1) 99).length) bj), (14, vI k), (17, vI (k1 : Int))]) (fun (k, k1) bt => Chg (ins []) aA bt ∧ (k1 ≤ (askS E C ((Int.tmod (more.length : Int) 100) + 1) 99).length) ∧ (k = (rowsN (askS E C 0 99) : Int) - (rowsN (askS E C 0 (Int.tmod (more.length : Int) 100)) : Int) - (rowsN ((askS E C ((Int.tmod (more.length : Int) 100) + 1) 99).take k1) : Int))) (fun (k, k1) => (askS E C ((Int.tmod (more.length : Int) 100) + 1) 99).length - k1) (by kernel_rfl) ⟨by kernel_rfl, by kernel_rfl, by kernel_rfl, by kernel_rfl, by kernel_rfl, trivial⟩ ⟨Chg.refl _ _, (by omega), (by have q2 := rowsN_all (l := (askS E C 0 (Int.tmod (more.length : Int) 100))) (i := k1) (by omega); have q3 : rowsN (List.take 0 (askS E C ((Int.tmod (more.length : Int) 100) + 1) 99)) = 0 := rfl; omega)⟩ ?_
 rintro ⟨k, k1⟩ dY bt ⟨aF, dd, de⟩ aK
 have bu : Mv [ai] [ai] aA bt := Mv.inl aF all_nil (all_cons (.inl (.head _)) all_nil)
 replace ⟨al, J⟩ := (sp bu aF).g2 al J
 clear bu
 refine .s <| .s <| .g <| .r 3 <| .bp ((k1 : Int) < (((askS E C (Int.tmod (more.length : Int) 100 + 1) 99).length) : Int)) (fun cd => ?_) (fun cd => .d <| .cf <| .x 4 rfl <| .s <| .g <| .r 1 <| .eq k 0 (fun ce => .r 8 <| .d <| .rt Tryz.func6 Tryz.results6 (.bool (decide ((((askS E C W Z).length) : Int) ≤ (((askS E C 0 99).length) : Int)))) ⟨(congrArg Value.bool (by first | (have V : SD _ ∧ (_ ∧ _) ∧ (_ ∧ _) := (by assumption); have q2 := ask_cut (s := E) (f := C) (tm_lt2 more.length); have q3 := ask_le (f := C) V.1 W Z; have q5 := rowsN_all (l := (askS E C ((Int.tmod (more.length : Int) 100) + 1) 99)) (i := k1) (by omega); simp; omega) | (simp_all; done))), J⟩) fun ce => .r 8 <| .d <| .rt Tryz.func6 Tryz.results6 (.bool false) ⟨(congrArg Value.bool (by have V : SD _ ∧ (_ ∧ _) ∧ (_ ∧ _) := (by assumption); exfalso; first | (have q2 := ask_cut (s := E) (f := C) (tm_lt2 more.length); have q3 := ask_le (f := C) V.1 W Z; have q5 := rowsN_all (l := (askS E C ((Int.tmod (more.length : Int) 100) + 1) 99)) (i := k1) (by omega); omega) | (simp_all; done))), J⟩)
 refine .d <| .ct <| .sk <| .s <| .b 5 <| .g <| .r 3 ?_
 have cg : k1 < (askS E C (Int.tmod (more.length : Int) 100 + 1) 99).length := (by omega)
 refine .ix k1 2 al cg <| .r 1 ?_
 obtain ⟨bv, aG⟩ : ∃ y, (askS E C (Int.tmod (more.length : Int) 100 + 1) 99)[k1]? = some y := ⟨_, List.getElem?_eq_getElem (by omega)⟩
 have df := drop_at aG; have cI := List.mem_of_getElem? aG
 obtain ⟨_, ⟨dZ, d0, d3, rfl, bN⟩, ci⟩ := al.elem k1 bv aG
 have cj := bN.len
 subst cj
 have dg := bN.max
 exact .lh 1 ci <| .r 1 <| RG.int (k - (bv.rows.length : Int)) (by kernel_rfl) (by have V : SD _ ∧ (_ ∧ _) ∧ (_ ∧ _) := (by assumption); have q7 := tm_lt2 more.length; first | omega | (have q2 := ask_bnd (f := C) V.1 0 99 k1; have q4 := ask_rows V.1 (by assumption : _ ∈ askS _ _ _ _); omega) | (have q5 := ask_bnd (f := C) V.1 0 99 (askS E C 0 99).length; rw [List.take_of_length_le (Nat.le_refl _)] at q5; have q6 := ask_bnd (f := C) V.1 0 (Int.tmod (more.length : Int) 100) (askS E C 0 (Int.tmod (more.length : Int) 100)).length; rw [List.take_of_length_le (Nat.le_refl _)] at q6; have q2 := ask_bnd (f := C) V.1 0 (Int.tmod (more.length : Int) 100) k1; have q4 := ask_rows V.1 (by assumption : _ ∈ askS _ _ _ _); omega) | (have q5 := ask_bnd (f := C) V.1 0 99 (askS E C 0 99).length; rw [List.take_of_length_le (Nat.le_refl _)] at q5; have q6 := ask_bnd (f := C) V.1 0 (Int.tmod (more.length : Int) 100) (askS E C 0 (Int.tmod (more.length : Int) 100)).length; rw [List.take_of_length_le (Nat.le_refl _)] at q6; have q2 := ask_bnd (f := C) V.1 ((Int.tmod (more.length : Int) 100) + 1) 99 k1; have q4 := ask_rows V.1 (by assumption : _ ∈ askS _ _ _ _); omega)) <| .r 1 <| .d <| .ib 5 <| .g <| .r 1 <| RG.int ((k1 : Int) + 1) (by kernel_rfl) (by have V : SD _ ∧ (_ ∧ _) ∧ (_ ∧ _) := (by assumption); have q7 := tm_lt2 more.length; first | omega | (have q2 := ask_bnd (f := C) V.1 0 99 k1; have q4 := ask_rows V.1 (by assumption : _ ∈ askS _ _ _ _); omega) | (have q5 := ask_bnd (f := C) V.1 0 99 (askS E C 0 99).length; rw [List.take_of_length_le (Nat.le_refl _)] at q5; have q6 := ask_bnd (f := C) V.1 0 (Int.tmod (more.length : Int) 100) (askS E C 0 (Int.tmod (more.length : Int) 100)).length; rw [List.take_of_length_le (Nat.le_refl _)] at q6; have q2 := ask_bnd (f := C) V.1 0 (Int.tmod (more.length : Int) 100) k1; have q4 := ask_rows V.1 (by assumption : _ ∈ askS _ _ _ _); omega) | (have q5 := ask_bnd (f := C) V.1 0 99 (askS E C 0 99).length; rw [List.take_of_length_le (Nat.le_refl _)] at q5; have q6 := ask_bnd (f := C) V.1 0 (Int.tmod (more.length : Int) 100) (askS E C 0 (Int.tmod (more.length : Int) 100)).length; rw [List.take_of_length_le (Nat.le_refl _)] at q6; have q2 := ask_bnd (f := C) V.1 ((Int.tmod (more.length : Int) 100) + 1) 99 k1; have q4 := ask_rows V.1 (by assumption : _ ∈ askS _ _ _ _); omega)) <| .r 1 <| .d <| aK (k - (bv.rows.length : Int), k1 + 1) _ _ ⟨by kernel_rfl, by kernel_rfl, by kernel_rfl, by kernel_rfl, by kernel_rfl, trivial⟩ ⟨aF, (by omega), (by rw [rowsN_take (by assumption)]; omega)⟩ (by first | omega | (simp only []; omega))
end Go.Proofs.YtfnpaglcnmcnbaaGreat
