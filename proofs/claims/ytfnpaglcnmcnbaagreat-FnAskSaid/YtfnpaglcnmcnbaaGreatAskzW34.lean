/- walks; squeezed -/
import Derived.Test.YtfnpaglcnmcnbaaGreatAskzMod31
set_option linter.unusedVariables false
set_option linter.unusedSimpArgs false
namespace Go.Proofs.YtfnpaglcnmcnbaaGreat
set_option maxRecDepth 100000
set_option maxHeartbeats 4000000
theorem c_laws_FnAsk (code : List UInt8) {w : World} {F : Nat → Prop} {a1 : Option Addr} {n1 c1 : Nat} (h1 : RepS w F a1 n1 c1 code)  : Calls Tryz.prog 8 [.slice a1 n1 c1].toArray w (rets fun rv w' => rv = .bool (true) ∧ Ext w w') := by
 refine goT Tryz.func8 ?_
 obtain ⟨rfl, cZ, h1⟩ := h1.tp
 refine .s <| .g <| .r 1 <| .d <| .s <| .s <| .g <| .r 2 <| .bp ((code.length : Int) > 1048576) (fun b0 => .d <| .ct <| .s <| .g <| .r 1 <| .d <| .rt Tryz.func8 Tryz.results8 (.bool true) ⟨(congrArg Value.bool (by rfl)), (Chg.refl _ _)⟩) fun b0 => .d <| .cf <| .sk <| .s <| .g <| .r 1 <| .cl (c_spec_DrawStoreAsk code h1 (w := w) (F := nin (fo F w.heap.size) [])) ?_
 rintro dX dY ⟨⟨E, W, J, O, ⟨dZ, d0, rfl, ⟨_, rfl, ⟨cz, d3, cA, cB, d4, cC, cD, d5, cE, cF, d6, cG, rfl, Z, ac, ae, af⟩⟩, ⟨d7, d8, rfl, ah⟩⟩, c7⟩, bz⟩
 have av : ∀ q_ ∈ ([] : List Nat), q_ < w.heap.size := all_nil
 have az : Gb w.heap.size w.heap.size := (Nat.le_refl _)
 have C := bz
 clear bz
 replace Z := RepS.mixed' (M := []) Z av az
 have c8 := Z.max
 replace ac := RepS.mixed' (M := []) ac av az
 have c9 := ac.max
 replace ae := RepS.mixed' (M := []) ae av az
 have da := ae.max
 replace af := RepS.mixed' (M := []) af av az
 have db := af.max
 replace ah := RepS.mixed' (M := []) ah av az
 have dd := ah.max
 clear av
 have b6 := Z.len
 subst b6
 have b7 := ac.len
 subst b7
 have b8 := ae.len
 subst b8
 have b9 := af.len
 subst b9
 refine .r 5 <| .np 30 [.slice none 0 0, .slice none 0 0, .slice none 0 0, .slice none 0 0] fun aj d9 aI bA cd ce => ?_
 have de := C.cn aI
 replace ⟨Z, ac, ae, af, ah, C⟩ := (sn [] bA aI).g6 Z ac ae af ah C
 clear bA ce aI
 refine .sc [.slice cz E.idx.names.length cA, .slice cB E.idx.posts.length cC, .slice cD E.parts.length cE, .slice cF E.mem.length cG] cd fun cg bB V ci => ?_
 replace ⟨Z, ac, ae, af, ah, C⟩ := (so [aj] bB).g6 Z ac ae af ah C
 clear bB ci
 refine .r 3 <| .d <| .s <| .g <| .ln V <| .r 3 <| .cl (c_impl_StoreAsk E W J O Z.ta ac.ta ae.ta af.ta ah.ta (by have q1 : SD _ ∧ (_ ∧ _) ∧ (_ ∧ _) := (by assumption); exact q1.1) (w := cg) (F := all)) ?_
 rintro ea cj ⟨⟨cH, cI, rfl, aa⟩, bC⟩
 have bD := al1 V.lt
 have ck : Gb w.heap.size cg.heap.size := C.size
 replace ⟨Z, ac, ae, af, ah, V, C⟩ := (se [aj] bC).g7 Z ac ae af ah V C
 clear bC
 have aa := aa.fr bD ck
 replace aa := aa.base (G' := fo F w.heap.size) (fun _ _ h => .inr h)
 have df := aa.max
 clear bD
 refine .r 1 <| .d <| .s <| .s <| .g <| .r 1 <| .ln V <| .r 3 <| .cl (c_spec_StoreAsk E W J O Z.ta ac.ta ae.ta af.ta ah.ta (by have q1 : SD _ ∧ (_ ∧ _) ∧ (_ ∧ _) := (by assumption); exact q1.1) (w := cj) (F := all)) ?_
 rintro eb cJ ⟨⟨ec, ed, rfl, aJ⟩, bE⟩
 have bF := al1 V.lt
 have cm : Gb w.heap.size cj.heap.size := C.size
 replace ⟨Z, ac, ae, af, ah, V, aa, C⟩ := (se [aj] bE).g8 Z ac ae af ah V aa C
 clear bE
 have aJ := aJ.fr bF cm
 replace aJ := aJ.base (G' := fo F w.heap.size) (fun _ _ h => .inr h)
 clear bF
 refine .cl (c_laws_lyHits (askS E W J O) (askS E W J O) aa.ta aJ.ta (w := cJ) (F := all)) ?_
 rintro ee bK ⟨rfl, bG⟩
 replace ⟨Z, ac, ae, af, ah, V, aa, C⟩ := (se [aj] bG).g8 Z ac ae af ah V aa C
 clear bG
 cases dg : ((askS E W J O) == (askS E W J O))
 · refine .r 11 <| .d <| .ct <| .s <| .g <| .r 1 <| .ln V <| .r 3 <| .cl (c_spec_StoreAsk E W J O Z.ta ac.ta ae.ta af.ta ah.ta (by have q1 : SD _ ∧ (_ ∧ _) ∧ (_ ∧ _) := (by assumption); exact q1.1) (w := bK) (F := all)) ?_
   rintro ef cK ⟨⟨dh, di, rfl, aA⟩, bH⟩
   have aK := al1 V.lt
   have bL : Gb w.heap.size bK.heap.size := C.size
   replace ⟨Z, ac, ae, af, ah, V, aa, C⟩ := (se [aj] bH).g8 Z ac ae af ah V aa C
   clear bH
   have aA := aA.fr aK bL
   replace aA := aA.base (G' := fo F w.heap.size) (fun _ _ h => .inr h)
   clear aK
   refine .cl (c_laws_lyHits (askS E W J O) (askS E W J O) aa.ta aA.ta (w := cK) (F := all)) ?_
   rintro dj dk ⟨rfl, aL⟩
   replace ⟨Z, ac, ae, af, ah, V, aa, C⟩ := (se [aj] aL).g8 Z ac ae af ah V aa C
   clear aL
   exact .r 1 <| .d <| .rt Tryz.func8 Tryz.results8 (.bool ((askS E W J O) == (askS E W J O))) ⟨(congrArg Value.bool (by first | (have q2 := askInv.fin (by assumption : askInv E W J O k1 k) (by omega); simp; omega) | (simp_all; done))), C⟩
 refine .r 2 <| .ln V <| .cl (c_spec_StoreOk E Z.ta ac.ta ae.ta af.ta (by have q1 : SD _ ∧ (_ ∧ _) ∧ (_ ∧ _) := (by assumption); exact q1.1) (w := bK) (F := all)) ?_
 rintro dm aM ⟨rfl, aN⟩
 replace ⟨Z, ac, ae, af, ah, V, aa, C⟩ := (se [aj] aN).g8 Z ac ae af ah V aa C
 clear aN
 cases cL : (storeOk E)
 · refine .r 7 <| .d <| .ct <| .s <| .g <| .r 1 <| .ln V <| .r 3 <| .cl (c_spec_StoreAsk E W J O Z.ta ac.ta ae.ta af.ta ah.ta (by have q1 : SD _ ∧ (_ ∧ _) ∧ (_ ∧ _) := (by assumption); exact q1.1) (w := aM) (F := all)) ?_
   rintro dp co ⟨⟨dq, dr, rfl, aB⟩, aO⟩
   have aP := al1 V.lt
   have bM : Gb w.heap.size aM.heap.size := C.size
   replace ⟨Z, ac, ae, af, ah, V, aa, C⟩ := (se [aj] aO).g8 Z ac ae af ah V aa C
   clear aO
   have aB := aB.fr aP bM
   replace aB := aB.base (G' := fo F w.heap.size) (fun _ _ h => .inr h)
   clear aP
   refine .cl (c_laws_lyHits (askS E W J O) (askS E W J O) aa.ta aB.ta (w := co) (F := all)) ?_
   rintro dt du ⟨rfl, aQ⟩
   replace ⟨Z, ac, ae, af, ah, V, aa, C⟩ := (se [aj] aQ).g8 Z ac ae af ah V aa C
   clear aQ
   exact .r 1 <| .d <| .rt Tryz.func8 Tryz.results8 (.bool ((askS E W J O) == (askS E W J O))) ⟨(congrArg Value.bool (by first | (have q2 := askInv.fin (by assumption : askInv E W J O k1 k) (by omega); simp; omega) | (simp_all; done))), C⟩
 refine .r 4 <| .cl (c_spec_FilterOk W ah.ta (w := aM) (F := all)) ?_
 rintro dv aH ⟨rfl, aR⟩
 replace ⟨Z, ac, ae, af, ah, V, aa, C⟩ := (se [aj] aR).g8 Z ac ae af ah V aa C
 clear aR
 cases cM : (filtOk W)
 · refine .r 2 <| .d <| .ct <| .s <| .g <| .r 1 <| .ln V <| .r 3 <| .cl (c_spec_StoreAsk E W J O Z.ta ac.ta ae.ta af.ta ah.ta (by have q1 : SD _ ∧ (_ ∧ _) ∧ (_ ∧ _) := (by assumption); exact q1.1) (w := aH) (F := all)) ?_
   rintro dw cp ⟨⟨dx, dy, rfl, aC⟩, aS⟩
   have aT := al1 V.lt
   have bN : Gb w.heap.size aH.heap.size := C.size
   replace ⟨Z, ac, ae, af, ah, V, aa, C⟩ := (se [aj] aS).g8 Z ac ae af ah V aa C
   clear aS
   have aC := aC.fr aT bN
   replace aC := aC.base (G' := fo F w.heap.size) (fun _ _ h => .inr h)
   clear aT
   refine .cl (c_laws_lyHits (askS E W J O) (askS E W J O) aa.ta aC.ta (w := cp) (F := all)) ?_
   rintro dz dA ⟨rfl, aU⟩
   replace ⟨Z, ac, ae, af, ah, V, aa, C⟩ := (se [aj] aU).g8 Z ac ae af ah V aa C
   clear aU
   exact .r 1 <| .d <| .rt Tryz.func8 Tryz.results8 (.bool ((askS E W J O) == (askS E W J O))) ⟨(congrArg Value.bool (by first | (have q2 := askInv.fin (by assumption : askInv E W J O k1 k) (by omega); simp; omega) | (simp_all; done))), C⟩
 refine .r 2 <| .d <| .cf <| .sk <| .s <| .g <| .r 1 <| .d <| .s <| .g <| .r 1 <| .ln V <| .r 1 <| .cl (c_impl_IndexFind E.idx W Z.ta ac.ta ah.ta (by have q1 : SD _ ∧ (_ ∧ _) ∧ (_ ∧ _) := (by assumption); exact q1.1.ix) (by have q1 : SD _ ∧ (_ ∧ _) ∧ (_ ∧ _) := (by assumption); exact q1.1.nd) (w := aH) (F := all)) ?_
 rintro dB bI ⟨⟨cq, cr, rfl, ag⟩, aV⟩
 have aW := al1 V.lt
 have bO : Gb w.heap.size aH.heap.size := C.size
 replace ⟨Z, ac, ae, af, V, aa, C⟩ := (se [aj] aV).g7 Z ac ae af V aa C
 clear aV
 have ag := ag.fr aW bO
 replace ag := ag.base (G' := fo F w.heap.size) (fun _ _ h => .inr h)
 have cN := ag.max
 clear aW
 refine .r 1 <| .d <| .s <| .s <| .g <| .r 1 <| .d <| .b 0 <| T.loop (X := Nat × Nat) (0, 0) (fun (k, k1) => [(3, .pointer (some ⟨aj, 0, none⟩)), (5, vI J), (6, vI O), (7, .slice cH ((askS E W J O).length) cI), (8, vI (k : Int)), (9, .slice cq ((findP (fitsI W) 0 E.idx.names).length) cr), (10, vI (k1 : Int))]) (fun (k, k1) aX => Chg (ins []) bI aX ∧ (k ≤ (askS E W J O).length) ∧ (askInv E W J O k1 k)) (fun (k, k1) => (findP (fitsI W) 0 E.idx.names).length - k1) (by kernel_rfl) ⟨by kernel_rfl, by kernel_rfl, by kernel_rfl, by kernel_rfl, by kernel_rfl, by kernel_rfl, by kernel_rfl, trivial⟩ ⟨Chg.refl _ _, (by omega), (by have q1 : SD _ ∧ (_ ∧ _) ∧ (_ ∧ _) := (by assumption); exact askInv.start q1.1 (by assumption))⟩ ?_
 rintro ⟨k, k1⟩ dC aX ⟨ab, cO, cP⟩ aw
 have aY : Mv [aj] [aj] bI aX := Mv.inl ab all_nil (all_cons (.inl (.head _)) all_nil)
 replace ⟨Z, ac, ae, af, V, aa, ag, C⟩ := (sp aY ab).g8 Z ac ae af V aa ag C
 clear aY
 refine .s <| .s <| .g <| .r 3 <| .bp ((k1 : Int) < (((findP (fitsI W) 0 E.idx.names).length) : Int)) (fun bP => ?_) (fun bP => .d <| .cf <| .x 0 rfl <| .s <| .g <| .r 5 <| .d <| .rt Tryz.func8 Tryz.results8 (.bool ((k : Int) == (((askS E W J O).length) : Int))) ⟨(congrArg Value.bool (by first | (have q2 := askInv.fin (by assumption : askInv E W J O k1 k) (by omega); simp; omega) | (simp_all; done))), C⟩)
 refine .d <| .ct <| .sk <| .s <| .b 1 <| .s <| .gd nil 8 fun dD aZ => ?_
 replace ⟨Z, ac, ae, af, V, aa, ag, C, ab⟩ := (se [aj] aZ).g9 Z ac ae af V aa ag C ab
 clear aZ
 refine .ln 0 V id <| .r [1, 2] ?_
 have ba : k1 < (findP (fitsI W) 0 E.idx.names).length := (by first | omega | (have q1 : SD _ ∧ (_ ∧ _) ∧ (_ ∧ _) := (by assumption); have q2 := findP_in (by assumption : _ ∈ findP _ 0 E.idx.names); omega))
 refine GA.idx (i := 3) k1 (len := (findP (fitsI W) 0 E.idx.names).length) (z := (k1 : Int)) (sz := 1) (by kernel_rfl) (by first | omega | (have q1 : SD _ ∧ (_ ∧ _) ∧ (_ ∧ _) := (by assumption); have q2 := findP_in (by assumption : _ ∈ findP _ 0 E.idx.names); omega)) ba (ag.addr (Nat.zero_lt_of_lt ba)) ?_
 obtain ⟨am, ay⟩ : ∃ y, (findP (fitsI W) 0 E.idx.names)[k1]? = some y := ⟨_, List.getElem?_eq_getElem (by first | omega | (have q1 : SD _ ∧ (_ ∧ _) ∧ (_ ∧ _) := (by assumption); have q2 := findP_in (by assumption : _ ∈ findP _ 0 E.idx.names); omega))⟩
 have cQ := drop_at ay; have cu := List.mem_of_getElem? ay
 obtain ⟨_, rfl, bQ⟩ := ag.elem k1 am ay
 refine .lh 4 0 bQ id <| .r [6, 7] <| .go 5 <| .cl (fun bc ao => c_impl_StoreRows E am (Z.ta.ext ao) (ac.ta.ext ao) (ae.ta.ext ao) (af.ta.ext ao) (by have q1 : SD _ ∧ (_ ∧ _) ∧ (_ ∧ _) := (by assumption); exact q1.1) (w := bc) (F := all)) ?_
 intro bc ao
 replace ⟨Z, V, aa, ag, C, ab⟩ := (se [aj] ao).g6 Z V aa ag C ab
 rintro dE dF ⟨⟨dG, dH, rfl, aq⟩, aE⟩
 have bd := al1 V.lt
 have bR : Gb w.heap.size bc.heap.size := C.size
 have hkeep_ := aE
 replace ⟨Z, V, aa, ag, C, ab⟩ := (se [aj] aE).g6 Z V aa ag C ab
 clear aE
 refine ⟨Ext.chg hkeep_, ?_⟩
 have aq := aq.fr bd bR
 replace aq := aq.base (G' := fo F w.heap.size) (fun _ _ h => .inr h)
 have cR := aq.max
 clear bd
 refine .d fun bJ bg => ?_
 replace ⟨Z, V, aa, ag, aq, C, ab⟩ := (se [aj] bg).g7 Z V aa ag aq C ab
 clear bg
 refine .cl (c_impl_BlockCut (rowsI E am) J O aq.ta (by have q1 : SD _ ∧ (_ ∧ _) ∧ (_ ∧ _) := (by assumption); refine Nat.le_trans (rowsI_len100 q1.1 _) (by omega)) (w := bJ) (F := all)) ?_
 rintro dI dJ ⟨⟨dK, dL, rfl, ak⟩, bh⟩
 have bi := al1 V.lt
 have bS : Gb w.heap.size bJ.heap.size := C.size
 replace ⟨Z, V, aa, ag, C, ab⟩ := (se [aj] bh).g6 Z V aa ag C ab
 clear bh
 have ak := ak.fr bi bS
 replace ak := ak.base (G' := fo F w.heap.size) (fun _ _ h => .inr h)
 have cS := ak.max
 clear bi
 refine .r 1 <| .d <| .s <| .s <| .g <| .r 2 <| .eq (((cutI (rowsI E am) J O).length) : Int) 0 (fun bT => .d <| .ct <| .x 1 rfl <| .g <| .r 1 <| RG.int ((k1 : Int) + 1) (by kernel_rfl) (by first | omega | (have q1 : SD _ ∧ (_ ∧ _) ∧ (_ ∧ _) := (by assumption); have q2 := findP_in (by assumption : _ ∈ findP _ 0 E.idx.names); omega)) <| .r 1 <| .d <| aw (k, k1 + 1) _ _ ⟨by kernel_rfl, by kernel_rfl, by kernel_rfl, by kernel_rfl, by kernel_rfl, by kernel_rfl, by kernel_rfl, trivial⟩ ⟨ab, (by omega), (by have q1 : SD _ ∧ (_ ∧ _) ∧ (_ ∧ _) := (by assumption); first | exact askInv.skip (by assumption : askInv E W J O k1 k) q1.1 (by assumption) (by assumption) (by assumption) | exact (askInv.hit (by assumption : askInv E W J O k1 k) q1.1 (by assumption) (by assumption) (by assumption) (by assumption)).2)⟩ (by first | omega | (simp only []; omega))) fun bT => .d <| .cf <| .sk <| .s <| .s <| .gd nil 30 fun dM bj => ?_
 replace ⟨Z, V, aa, ag, ak, C, ab⟩ := (se [aj] bj).g7 Z V aa ag ak C ab
 clear bj
 refine .r [0, 1, 2] <| GA.boolP (i := 3) ((k : Int) ≥ (((askS E W J O).length) : Int)) (by kernel_rfl) (fun bU => ?_) (fun bU => ?_)
 · refine .r [4, 5, 6, 7, 8, 9, 10, 11, 12, 13, 14, 15, 16, 17, 18, 19, 20, 21, 22, 23, 24, 25, 26, 27, 28, 29] <| .d fun dN bk => ?_
   replace ⟨Z, V, aa, ag, ak, C, ab⟩ := (se [aj] bk).g7 Z V aa ag ak C ab
   clear bk
   exact .r 3 <| .d <| .ct <| .s <| .g <| .r 1 <| .d <| .rt Tryz.func8 Tryz.results8 (.bool false) ⟨(congrArg Value.bool (by have q1 : SD _ ∧ (_ ∧ _) ∧ (_ ∧ _) := (by assumption); exfalso; first | exact askInv.no1 (by assumption : askInv E W J O k1 k) q1.1 (by assumption) (by assumption) (by assumption) (by assumption) | exact askInv.no2 (by assumption : askInv E W J O k1 k) q1.1 (by assumption) (by assumption) (by assumption) (by assumption) (by assumption) (.inl (by assumption)) | exact askInv.no2 (by assumption : askInv E W J O k1 k) q1.1 (by assumption) (by assumption) (by assumption) (by assumption) (by assumption) (.inr (.inl (by assumption))) | exact askInv.no2 (by assumption : askInv E W J O k1 k) q1.1 (by assumption) (by assumption) (by assumption) (by assumption) (by assumption) (.inr (.inr (by assumption))) | (have q2 := askInv.fin (by assumption : askInv E W J O k1 k) (by omega); omega) | (simp_all; done))), C⟩
 refine .r [4, 5, 6] ?_
 have bm : k < (askS E W J O).length := (by first | omega | (have q1 : SD _ ∧ (_ ∧ _) ∧ (_ ∧ _) := (by assumption); have q2 := findP_in (by assumption : _ ∈ findP _ 0 E.idx.names); omega))
 refine GA.idx (i := 7) k (len := (askS E W J O).length) (z := (k : Int)) (sz := 2) (by kernel_rfl) (by first | omega | (have q1 : SD _ ∧ (_ ∧ _) ∧ (_ ∧ _) := (by assumption); have q2 := findP_in (by assumption : _ ∈ findP _ 0 E.idx.names); omega)) bm (aa.addr (Nat.zero_lt_of_lt bm)) <| .r [8] ?_
 obtain ⟨ax, aF⟩ : ∃ y, (askS E W J O)[k]? = some y := ⟨_, List.getElem?_eq_getElem (by first | omega | (have q1 : SD _ ∧ (_ ∧ _) ∧ (_ ∧ _) := (by assumption); have q2 := findP_in (by assumption : _ ∈ findP _ 0 E.idx.names); omega))⟩
 have cT := drop_at aF; have cv := List.mem_of_getElem? aF
 obtain ⟨_, ⟨dO, dP, dQ, rfl, au⟩, bn⟩ := aa.elem k ax aF
 have bV := au.len
 subst bV
 have cU := au.max
 refine .lh 9 0 bn id <| .r [10, 11] <| .lb 12 V id <| .r [13, 14] ?_
 have bo : k1 < (findP (fitsI W) 0 E.idx.names).length := (by first | omega | (have q1 : SD _ ∧ (_ ∧ _) ∧ (_ ∧ _) := (by assumption); have q2 := findP_in (by assumption : _ ∈ findP _ 0 E.idx.names); omega))
 refine GA.idx (i := 15) k1 (len := (findP (fitsI W) 0 E.idx.names).length) (z := (k1 : Int)) (sz := 1) (by kernel_rfl) (by first | omega | (have q1 : SD _ ∧ (_ ∧ _) ∧ (_ ∧ _) := (by assumption); have q2 := findP_in (by assumption : _ ∈ findP _ 0 E.idx.names); omega)) bo (ag.addr (Nat.zero_lt_of_lt bo)) ?_
 obtain ⟨_, rfl, bW⟩ := ag.elem k1 am ay
 refine .lh 16 0 bW id <| GA.int (i := 17) (am - 1) (by kernel_rfl) (by first | omega | (have q1 : SD _ ∧ (_ ∧ _) ∧ (_ ∧ _) := (by assumption); have q2 := findP_in (by assumption : _ ∈ findP _ 0 E.idx.names); omega)) ?_
 have bq : (am - 1).toNat < E.idx.names.length := (by first | omega | (have q1 : SD _ ∧ (_ ∧ _) ∧ (_ ∧ _) := (by assumption); have q2 := findP_in (by assumption : _ ∈ findP _ 0 E.idx.names); omega))
 refine GA.idx (i := 18) ((am - 1).toNat) (len := E.idx.names.length) (z := am - 1) (sz := 1) (by kernel_rfl) (by first | omega | (have q1 : SD _ ∧ (_ ∧ _) ∧ (_ ∧ _) := (by assumption); have q2 := findP_in (by assumption : _ ∈ findP _ 0 E.idx.names); omega)) bq (Z.addr (Nat.zero_lt_of_lt bq)) ?_
 obtain ⟨aD, aG⟩ : ∃ y, E.idx.names[(am - 1).toNat]? = some y := ⟨_, List.getElem?_eq_getElem (by first | omega | (have q1 : SD _ ∧ (_ ∧ _) ∧ (_ ∧ _) := (by assumption); have q2 := findP_in (by assumption : _ ∈ findP _ 0 E.idx.names); omega))⟩
 have cV := drop_at aG; have cw := List.mem_of_getElem? aG
 obtain ⟨_, ⟨dR, dS, dT, rfl, br⟩, bX⟩ := Z.elem ((am - 1).toNat) aD aG
 have bY := br.len
 subst bY
 have cW := br.max
 refine .lh 19 0 bX id <| GA.call1 (i := 20) (by kernel_rfl) (fun cx bZ => c_impl_NameText aD (br.ta.ext bZ) (by have q1 : SD _ ∧ (_ ∧ _) ∧ (_ ∧ _) := (by assumption); exact q1.1.nm.sz _ (by assumption)) (w := cx) (F := all)) <| GA.eqv (i := 21) (v := .bool (!(ax.name == textI aD))) (by kernel_rfl) (s_ne ax.name (textI aD)) ?_
 cases cX : (ax.name == textI aD)
 · refine .r [22, 23, 24, 25, 26, 27, 28, 29] <| .d fun dU bt => ?_
   replace ⟨aa, ak, au, C, ab⟩ := (se [aj] bt).g5 aa ak au C ab
   clear bt
   exact .r 3 <| .d <| .ct <| .s <| .g <| .r 1 <| .d <| .rt Tryz.func8 Tryz.results8 (.bool false) ⟨(congrArg Value.bool (by have q1 : SD _ ∧ (_ ∧ _) ∧ (_ ∧ _) := (by assumption); exfalso; first | exact askInv.no1 (by assumption : askInv E W J O k1 k) q1.1 (by assumption) (by assumption) (by assumption) (by assumption) | exact askInv.no2 (by assumption : askInv E W J O k1 k) q1.1 (by assumption) (by assumption) (by assumption) (by assumption) (by assumption) (.inl (by assumption)) | exact askInv.no2 (by assumption : askInv E W J O k1 k) q1.1 (by assumption) (by assumption) (by assumption) (by assumption) (by assumption) (.inr (.inl (by assumption))) | exact askInv.no2 (by assumption : askInv E W J O k1 k) q1.1 (by assumption) (by assumption) (by assumption) (by assumption) (by assumption) (.inr (.inr (by assumption))) | (have q2 := askInv.fin (by assumption : askInv E W J O k1 k) (by omega); omega) | (simp_all; done))), C⟩
 refine .r [22, 23, 24, 25] ?_
 have bu : k < (askS E W J O).length := (by first | omega | (have q1 : SD _ ∧ (_ ∧ _) ∧ (_ ∧ _) := (by assumption); have q2 := findP_in (by assumption : _ ∈ findP _ 0 E.idx.names); omega))
 refine GA.idx (i := 26) k (len := (askS E W J O).length) (z := (k : Int)) (sz := 2) (by kernel_rfl) (by first | omega | (have q1 : SD _ ∧ (_ ∧ _) ∧ (_ ∧ _) := (by assumption); have q2 := findP_in (by assumption : _ ∈ findP _ 0 E.idx.names); omega)) bu (aa.addr (Nat.zero_lt_of_lt bu)) <| .r [27] <| .lh 28 1 bn id <| .r [29] <| .d fun cy bv => ?_
 replace ⟨ak, au, C, ab⟩ := (se [aj] bv).g4 ak au C ab
 clear bv
 refine .cl (c_laws_lyRows ax.rows (cutI (rowsI E am) J O) au.ta ak.ta (w := cy) (F := all)) ?_
 rintro dV dW ⟨rfl, bw⟩
 replace ⟨C, ab⟩ := (se [] bw).g2 C ab
 clear bw
 cases cY : (ax.rows == (cutI (rowsI E am) J O))
 · exact .r 2 <| .d <| .ct <| .s <| .g <| .r 1 <| .d <| .rt Tryz.func8 Tryz.results8 (.bool false) ⟨(congrArg Value.bool (by have q1 : SD _ ∧ (_ ∧ _) ∧ (_ ∧ _) := (by assumption); exfalso; first | exact askInv.no1 (by assumption : askInv E W J O k1 k) q1.1 (by assumption) (by assumption) (by assumption) (by assumption) | exact askInv.no2 (by assumption : askInv E W J O k1 k) q1.1 (by assumption) (by assumption) (by assumption) (by assumption) (by assumption) (.inl (by assumption)) | exact askInv.no2 (by assumption : askInv E W J O k1 k) q1.1 (by assumption) (by assumption) (by assumption) (by assumption) (by assumption) (.inr (.inl (by assumption))) | exact askInv.no2 (by assumption : askInv E W J O k1 k) q1.1 (by assumption) (by assumption) (by assumption) (by assumption) (by assumption) (.inr (.inr (by assumption))) | (have q2 := askInv.fin (by assumption : askInv E W J O k1 k) (by omega); omega) | (simp_all; done))), C⟩
 exact .r 2 <| .d <| .cf <| .sk <| .g <| .r 1 <| RG.int ((k : Int) + 1) (by kernel_rfl) (by first | omega | (have q1 : SD _ ∧ (_ ∧ _) ∧ (_ ∧ _) := (by assumption); have q2 := findP_in (by assumption : _ ∈ findP _ 0 E.idx.names); omega)) <| .r 1 <| .d <| .ib 1 <| .g <| .r 1 <| RG.int ((k1 : Int) + 1) (by kernel_rfl) (by first | omega | (have q1 : SD _ ∧ (_ ∧ _) ∧ (_ ∧ _) := (by assumption); have q2 := findP_in (by assumption : _ ∈ findP _ 0 E.idx.names); omega)) <| .r 1 <| .d <| aw (k + 1, k1 + 1) _ _ ⟨by kernel_rfl, by kernel_rfl, by kernel_rfl, by kernel_rfl, by kernel_rfl, by kernel_rfl, by kernel_rfl, trivial⟩ ⟨ab, (by omega), (by have q1 : SD _ ∧ (_ ∧ _) ∧ (_ ∧ _) := (by assumption); first | exact askInv.skip (by assumption : askInv E W J O k1 k) q1.1 (by assumption) (by assumption) (by assumption) | exact (askInv.hit (by assumption : askInv E W J O k1 k) q1.1 (by assumption) (by assumption) (by assumption) (by assumption)).2)⟩ (by first | omega | (simp only []; omega))
end Go.Proofs.YtfnpaglcnmcnbaaGreat
