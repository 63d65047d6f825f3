/- walks; squeezed -/
import Derived.Test.YtfnpaglcnmcnbaaGreatAskzMod31
set_option linter.unusedVariables false
set_option linter.unusedSimpArgs false
namespace Go.Proofs.YtfnpaglcnmcnbaaGreat
set_option maxRecDepth 100000
set_option maxHeartbeats 4000000
theorem c_laws_FnAskFilter (code : List UInt8) {w : World} {F : Nat → Prop} {a1 : Option Addr} {n1 c1 : Nat} (h1 : RepS w F a1 n1 c1 code)  : Calls Tryz.prog 7 [.slice a1 n1 c1].toArray w (rets fun rv w' => rv = .bool (true) ∧ Ext w w') := by
 refine goT Tryz.func7 ?_
 obtain ⟨rfl, cG, h1⟩ := h1.tp
 refine .s <| .g <| .r 1 <| .d <| .s <| .s <| .g <| .r 2 <| .bp ((code.length : Int) > 1048576) (fun bL => .d <| .ct <| .s <| .g <| .r 1 <| .d <| .rt Tryz.func7 Tryz.results7 (.bool true) ⟨(congrArg Value.bool (by rfl)), (Chg.refl _ _)⟩) fun bL => .d <| .cf <| .sk <| .s <| .g <| .r 1 <| .cl (c_spec_DrawStoreAsk code h1 (w := w) (F := nin (fo F w.heap.size) [])) ?_
 rintro dB dC ⟨⟨V, ae, E, J, ⟨dD, dE, rfl, ⟨_, rfl, ⟨cd, dF, ce, cg, dG, ci, cj, dH, ck, cm, dI, co, rfl, Z, aa, ab, ac⟩⟩, ⟨dJ, dK, rfl, af⟩⟩, cH⟩, aY⟩
 have am : ∀ q_ ∈ ([] : List Nat), q_ < w.heap.size := all_nil
 have av : Gb w.heap.size w.heap.size := (Nat.le_refl _)
 have C := aY
 clear aY
 replace Z := RepS.mixed' (M := []) Z am av
 have cI := Z.max
 replace aa := RepS.mixed' (M := []) aa am av
 have cJ := aa.max
 replace ab := RepS.mixed' (M := []) ab am av
 have cK := ab.max
 replace ac := RepS.mixed' (M := []) ac am av
 have cL := ac.max
 replace af := RepS.mixed' (M := []) af am av
 have cM := af.max
 clear am
 have bM := Z.len
 subst bM
 have bN := aa.len
 subst bN
 have bO := ab.len
 subst bO
 have bP := ac.len
 subst bP
 refine .r 5 <| .np 30 [.slice none 0 0, .slice none 0 0, .slice none 0 0, .slice none 0 0] fun ai dL aC aZ bQ bR => ?_
 have cN := C.cn aC
 replace ⟨Z, aa, ab, ac, af, C⟩ := (sn [] aZ aC).g6 Z aa ab ac af C
 clear aZ bR aC
 refine .sc [.slice cd V.idx.names.length ce, .slice cg V.idx.posts.length ci, .slice cj V.parts.length ck, .slice cm V.mem.length co] bQ fun bS ba O bT => ?_
 replace ⟨Z, aa, ab, ac, af, C⟩ := (so [ai] ba).g6 Z aa ab ac af C
 clear ba bT
 refine .r 3 <| .d <| .s <| .g <| .ln O <| .r 3 <| .cl (c_impl_StoreAsk V ae E J Z.ta aa.ta ab.ta ac.ta af.ta (by have q1 : SD _ ∧ (_ ∧ _) ∧ (_ ∧ _) := (by assumption); exact q1.1) (w := bS) (F := all)) ?_
 rintro dM bU ⟨⟨cp, cq, rfl, W⟩, bc⟩
 have bd := al1 O.lt
 have bV : Gb w.heap.size bS.heap.size := C.size
 replace ⟨Z, aa, ab, ac, af, O, C⟩ := (se [ai] bc).g7 Z aa ab ac af O C
 clear bc
 have W := W.fr bd bV
 replace W := W.base (G' := fo F w.heap.size) (fun _ _ h => .inr h)
 have cO := W.max
 clear bd
 refine .r 1 <| .d <| .s <| .s <| .g <| .r 1 <| .ln O <| .r 3 <| .cl (c_spec_StoreAsk V ae E J Z.ta aa.ta ab.ta ac.ta af.ta (by have q1 : SD _ ∧ (_ ∧ _) ∧ (_ ∧ _) := (by assumption); exact q1.1) (w := bU) (F := all)) ?_
 rintro dN cr ⟨⟨dO, dP, rfl, aD⟩, bg⟩
 have bh := al1 O.lt
 have bW : Gb w.heap.size bU.heap.size := C.size
 replace ⟨Z, aa, ab, ac, af, O, W, C⟩ := (se [ai] bg).g8 Z aa ab ac af O W C
 clear bg
 have aD := aD.fr bh bW
 replace aD := aD.base (G' := fo F w.heap.size) (fun _ _ h => .inr h)
 clear bh
 refine .cl (c_laws_lyHits (askS V ae E J) (askS V ae E J) W.ta aD.ta (w := cr) (F := all)) ?_
 rintro dQ bo ⟨rfl, bi⟩
 replace ⟨Z, aa, ab, ac, af, O, W, C⟩ := (se [ai] bi).g8 Z aa ab ac af O W C
 clear bi
 cases cP : ((askS V ae E J) == (askS V ae E J))
 · refine .r 11 <| .d <| .ct <| .s <| .g <| .r 1 <| .ln O <| .r 3 <| .cl (c_spec_StoreAsk V ae E J Z.ta aa.ta ab.ta ac.ta af.ta (by have q1 : SD _ ∧ (_ ∧ _) ∧ (_ ∧ _) := (by assumption); exact q1.1) (w := bo) (F := all)) ?_
   rintro dR cu ⟨⟨cQ, cR, rfl, aw⟩, bj⟩
   have aE := al1 O.lt
   have bq : Gb w.heap.size bo.heap.size := C.size
   replace ⟨Z, aa, ab, ac, af, O, W, C⟩ := (se [ai] bj).g8 Z aa ab ac af O W C
   clear bj
   have aw := aw.fr aE bq
   replace aw := aw.base (G' := fo F w.heap.size) (fun _ _ h => .inr h)
   clear aE
   refine .cl (c_laws_lyHits (askS V ae E J) (askS V ae E J) W.ta aw.ta (w := cu) (F := all)) ?_
   rintro cS cT ⟨rfl, aF⟩
   replace ⟨Z, aa, ab, ac, af, O, W, C⟩ := (se [ai] aF).g8 Z aa ab ac af O W C
   clear aF
   exact .r 1 <| .d <| .rt Tryz.func7 Tryz.results7 (.bool ((askS V ae E J) == (askS V ae E J))) ⟨(congrArg Value.bool (by first | (have q2 := subEnd (by assumption) (by assumption) (by omega); simp; omega) | (simp_all; done))), C⟩
 refine .r 2 <| .ln O <| .cl (c_spec_StoreOk V Z.ta aa.ta ab.ta ac.ta (by have q1 : SD _ ∧ (_ ∧ _) ∧ (_ ∧ _) := (by assumption); exact q1.1) (w := bo) (F := all)) ?_
 rintro cU aG ⟨rfl, aH⟩
 replace ⟨Z, aa, ab, ac, af, O, W, C⟩ := (se [ai] aH).g8 Z aa ab ac af O W C
 clear aH
 cases cv : (storeOk V)
 · refine .r 7 <| .d <| .ct <| .s <| .g <| .r 1 <| .ln O <| .r 3 <| .cl (c_spec_StoreAsk V ae E J Z.ta aa.ta ab.ta ac.ta af.ta (by have q1 : SD _ ∧ (_ ∧ _) ∧ (_ ∧ _) := (by assumption); exact q1.1) (w := aG) (F := all)) ?_
   rintro cV bY ⟨⟨cW, cX, rfl, ax⟩, aI⟩
   have aJ := al1 O.lt
   have br : Gb w.heap.size aG.heap.size := C.size
   replace ⟨Z, aa, ab, ac, af, O, W, C⟩ := (se [ai] aI).g8 Z aa ab ac af O W C
   clear aI
   have ax := ax.fr aJ br
   replace ax := ax.base (G' := fo F w.heap.size) (fun _ _ h => .inr h)
   clear aJ
   refine .cl (c_laws_lyHits (askS V ae E J) (askS V ae E J) W.ta ax.ta (w := bY) (F := all)) ?_
   rintro cY cZ ⟨rfl, aK⟩
   replace ⟨Z, aa, ab, ac, af, O, W, C⟩ := (se [ai] aK).g8 Z aa ab ac af O W C
   clear aK
   exact .r 1 <| .d <| .rt Tryz.func7 Tryz.results7 (.bool ((askS V ae E J) == (askS V ae E J))) ⟨(congrArg Value.bool (by first | (have q2 := subEnd (by assumption) (by assumption) (by omega); simp; omega) | (simp_all; done))), C⟩
 refine .r 4 <| .cl (c_spec_FilterOk ae af.ta (w := aG) (F := all)) ?_
 rintro c7 az ⟨rfl, aL⟩
 replace ⟨Z, aa, ab, ac, af, O, W, C⟩ := (se [ai] aL).g8 Z aa ab ac af O W C
 clear aL
 cases cw : (filtOk ae)
 · refine .r 2 <| .d <| .ct <| .s <| .g <| .r 1 <| .ln O <| .r 3 <| .cl (c_spec_StoreAsk V ae E J Z.ta aa.ta ab.ta ac.ta af.ta (by have q1 : SD _ ∧ (_ ∧ _) ∧ (_ ∧ _) := (by assumption); exact q1.1) (w := az) (F := all)) ?_
   rintro c8 bZ ⟨⟨c9, da, rfl, ay⟩, aM⟩
   have aN := al1 O.lt
   have bt : Gb w.heap.size az.heap.size := C.size
   replace ⟨Z, aa, ab, ac, O, W, C⟩ := (se [ai] aM).g7 Z aa ab ac O W C
   clear aM
   have ay := ay.fr aN bt
   replace ay := ay.base (G' := fo F w.heap.size) (fun _ _ h => .inr h)
   clear aN
   refine .cl (c_laws_lyHits (askS V ae E J) (askS V ae E J) W.ta ay.ta (w := bZ) (F := all)) ?_
   rintro db dd ⟨rfl, aO⟩
   replace ⟨Z, aa, ab, ac, O, W, C⟩ := (se [ai] aO).g7 Z aa ab ac O W C
   clear aO
   exact .r 1 <| .d <| .rt Tryz.func7 Tryz.results7 (.bool ((askS V ae E J) == (askS V ae E J))) ⟨(congrArg Value.bool (by first | (have q2 := subEnd (by assumption) (by assumption) (by omega); simp; omega) | (simp_all; done))), C⟩
 refine .r 2 <| .d <| .cf <| .sk <| .s <| .g <| .ln O <| .r 2 <| .cl (c_impl_StoreAsk V ([] : List Cnd) E J Z.ta aa.ta ab.ta ac.ta (RepS.nil' _ all none 0 (by decide)) (by have q1 : SD _ ∧ (_ ∧ _) ∧ (_ ∧ _) := (by assumption); exact q1.1) (w := az) (F := all)) ?_
 rintro de bk ⟨⟨b0, b6, rfl, ah⟩, aP⟩
 have aQ := al1 O.lt
 have bu : Gb w.heap.size az.heap.size := C.size
 replace ⟨W, C⟩ := (se [ai] aP).g2 W C
 clear aP
 have ah := ah.fr aQ bu
 replace ah := ah.base (G' := fo F w.heap.size) (fun _ _ h => .inr h)
 have cx := ah.max
 clear aQ
 refine .r 1 <| .d <| .s <| .g <| .r 1 <| .d <| .s <| .s <| .g <| .r 1 <| .d <| .b 0 <| T.loop (X := Nat × Nat) (0, 0) (fun (k, k1) => [(7, .slice cp ((askS V ae E J).length) cq), (8, .slice b0 ((askS V ([] : List Cnd) E J).length) b6), (9, vI (k : Int)), (10, vI (k1 : Int))]) (fun (k, k1) aR => Chg (ins []) bk aR ∧ (k ≤ (askS V ae E J).length) ∧ (((askS V ae E J).drop k).Sublist ((askS V [] E J).drop k1))) (fun (k, k1) => (askS V [] E J).length - k1) (by kernel_rfl) ⟨by kernel_rfl, by kernel_rfl, by kernel_rfl, by kernel_rfl, trivial⟩ ⟨Chg.refl _ _, (by omega), (by exact ask_sub (by assumption) (by assumption))⟩ ?_
 rintro ⟨k, k1⟩ df aR ⟨ag, cy, cz⟩ ao
 have aS : Mv [ai] [ai] bk aR := Mv.inl ag all_nil (all_cons (.inl (.head _)) all_nil)
 replace ⟨W, ah, C⟩ := (sp aS ag).g3 W ah C
 clear aS
 refine .s <| .s <| .g <| .r 3 <| .bp ((k1 : Int) < (((askS V ([] : List Cnd) E J).length) : Int)) (fun bv => ?_) (fun bv => .r 6 <| .d <| .cf <| .x 0 rfl <| .s <| .g <| .r 5 <| .d <| .rt Tryz.func7 Tryz.results7 (.bool ((k : Int) == (((askS V ae E J).length) : Int))) ⟨(congrArg Value.bool (by first | (have q2 := subEnd (by assumption) (by assumption) (by omega); simp; omega) | (simp_all; done))), C⟩)
 refine .r 4 <| .bp ((k : Int) < (((askS V ae E J).length) : Int)) (fun bw => ?_) (fun bw => .r 1 <| .d <| .cf <| .x 0 rfl <| .s <| .g <| .r 5 <| .d <| .rt Tryz.func7 Tryz.results7 (.bool ((k : Int) == (((askS V ae E J).length) : Int))) ⟨(congrArg Value.bool (by first | (have q2 := subEnd (by assumption) (by assumption) (by omega); simp; omega) | (simp_all; done))), C⟩)
 refine .r 1 <| .d <| .ct <| .sk <| .s <| .b 1 <| .s <| .gd nil 10 fun dg aT => ?_
 replace ⟨W, ah, C, ag⟩ := (se [ai] aT).g4 W ah C ag
 clear aT
 refine .r [0, 1] ?_
 have bz : k1 < (askS V ([] : List Cnd) E J).length := (by omega)
 refine .ix 2 k1 2 ah bz <| .r [3] ?_
 obtain ⟨aj, aq⟩ : ∃ y, (askS V ([] : List Cnd) E J)[k1]? = some y := ⟨_, List.getElem?_eq_getElem (by omega)⟩
 have cA := drop_at aq; have b7 := List.mem_of_getElem? aq
 obtain ⟨_, ⟨dh, di, dj, rfl, bm⟩, bA⟩ := ah.elem k1 aj aq
 have bB := bm.len
 subst bB
 have cB := bm.max
 refine .lh 4 0 bA id <| .r [5, 6] ?_
 have bC : k < (askS V ae E J).length := (by omega)
 refine .ix 7 k 2 W bC <| .r [8] ?_
 obtain ⟨ak, ar⟩ : ∃ y, (askS V ae E J)[k]? = some y := ⟨_, List.getElem?_eq_getElem (by omega)⟩
 have cC := drop_at ar; have b8 := List.mem_of_getElem? ar
 obtain ⟨_, ⟨dk, dm, dp, rfl, bn⟩, bD⟩ := W.elem k ak ar
 have bE := bn.len
 subst bE
 have cD := bn.max
 refine .lh 9 0 bD id <| .d fun dq aU => ?_
 replace ⟨W, ah, C, ag⟩ := (se [ai] aU).g4 W ah C ag
 clear aU
 refine RG.eqv (v := .bool ((aj.name == ak.name))) (by kernel_rfl) (s_eq aj.name ak.name) ?_
 cases cE : (aj.name == ak.name)
 · exact .d <| .cf <| .sk <| .ib 1 <| .g <| .r 1 <| .it ((k1 : Int) + 1) <| .r 1 <| .d <| ao (k, k1 + 1) _ _ ⟨by kernel_rfl, by kernel_rfl, by kernel_rfl, by kernel_rfl, trivial⟩ ⟨ag, (by omega), (by have q1 : SD _ ∧ (_ ∧ _) ∧ (_ ∧ _) := (by assumption); first | exact filtA q1.1 (by assumption) (by assumption) (by assumption) (by assumption) | exact filtB q1.1 (by assumption) (by assumption) (by assumption) (by assumption))⟩ (by first | omega | (simp only []; omega))
 refine .d <| .ct <| .s <| .s <| .gd nil 10 fun dr aV => ?_
 replace ⟨W, ah, C, ag⟩ := (se [ai] aV).g4 W ah C ag
 clear aV
 refine .r [0, 1] ?_
 have bF : k1 < (askS V ([] : List Cnd) E J).length := (by omega)
 refine .ix 2 k1 2 ah bF <| .r [3] ?_
 obtain ⟨_, ⟨dt, du, dv, rfl, aA⟩, bG⟩ := ah.elem k1 aj aq
 have bH := aA.len
 subst bH
 refine .lh 4 1 bG id <| .r [5, 6] ?_
 have bI : k < (askS V ae E J).length := (by omega)
 refine .ix 7 k 2 W bI <| .r [8] ?_
 obtain ⟨_, ⟨dw, dx, dy, rfl, aB⟩, bJ⟩ := W.elem k ak ar
 have bK := aB.len
 subst bK
 refine .lh 9 1 bJ id <| .d fun b9 aW => ?_
 replace ⟨aA, aB, C, ag⟩ := (se [ai] aW).g4 aA aB C ag
 clear aW
 refine .cl (c_laws_lyRows aj.rows ak.rows aA.ta aB.ta (w := b9) (F := all)) ?_
 rintro dz dA ⟨rfl, aX⟩
 replace ⟨C, ag⟩ := (se [] aX).g2 C ag
 clear aX
 cases cF : (aj.rows == ak.rows)
 · exact .r 1 <| .d <| .ct <| .s <| .g <| .r 1 <| .d <| .rt Tryz.func7 Tryz.results7 (.bool false) ⟨(congrArg Value.bool (by have q1 : SD _ ∧ (_ ∧ _) ∧ (_ ∧ _) := (by assumption); exfalso; first | exact filtC q1.1 (by assumption) (by assumption) (by assumption) (by assumption) (by assumption) | (have q2 := subEnd (by assumption) (by assumption) (by omega); omega) | (simp_all; done))), C⟩
 exact .r 1 <| .d <| .cf <| .sk <| .g <| .r 1 <| .it ((k : Int) + 1) <| .r 1 <| .d <| .ib 1 <| .g <| .r 1 <| .it ((k1 : Int) + 1) <| .r 1 <| .d <| ao (k + 1, k1 + 1) _ _ ⟨by kernel_rfl, by kernel_rfl, by kernel_rfl, by kernel_rfl, trivial⟩ ⟨ag, (by omega), (by have q1 : SD _ ∧ (_ ∧ _) ∧ (_ ∧ _) := (by assumption); first | exact filtA q1.1 (by assumption) (by assumption) (by assumption) (by assumption) | exact filtB q1.1 (by assumption) (by assumption) (by assumption) (by assumption))⟩ (by first | omega | (simp only []; omega))
end Go.Proofs.YtfnpaglcnmcnbaaGreat
