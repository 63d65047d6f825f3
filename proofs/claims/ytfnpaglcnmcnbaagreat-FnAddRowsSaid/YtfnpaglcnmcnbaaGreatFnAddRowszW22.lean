/- walks; squeezed -/
import Derived.Test.YtfnpaglcnmcnbaaGreatFnAddRowszMod22
set_option linter.unusedVariables false
set_option linter.unusedSimpArgs false
namespace Go.Proofs.YtfnpaglcnmcnbaaGreat
set_option maxRecDepth 100000
set_option maxHeartbeats 4000000
theorem c_impl_IndexOk (ix : Idx) {w : World} {F : Nat → Prop} {a1 : Option Addr} {n1 c1 : Nat} (h1 : RepS w F a1 n1 c1 ix.names) {a2 : Option Addr} {n2 c2 : Nat} (h2 : RepS w F a2 n2 c2 ix.posts) (p0 : IxI ix) (p1 : NsD ix.names) : Calls Tryz.prog 71 [.agg #[.slice a1 n1 c1, .slice a2 n2 c2]].toArray w (rets fun rv w' => rv = .bool (true) ∧ Ext w w') := by
 refine goT Tryz.func71 ?_
 obtain ⟨rfl, ar, h1⟩ := h1.tp
 obtain ⟨rfl, au, h2⟩ := h2.tp
 refine .s <| .g <| .np 26 [.slice a1 ix.names.length c1, .slice a2 ix.posts.length c2] fun aa ax ac O E aj => ?_
 replace ⟨h1, h2⟩ := (sn [] O ac).g2 h1 h2
 have C := O
 clear O aj ac
 refine .r 1 <| .d <| .s <| .gd nil 10 fun ay ae => ?_
 replace ⟨h1, h2, E, C⟩ := (se [aa] ae).g4 h1 h2 E C
 clear ae
 refine .r [0] <| .lb 1 E id <| GA.call1 (i := 2) (by kernel_rfl) (fun ao ak => c_impl_namesOk ix.names (h1.ta.ext ak) p0.nm (w := ao) (F := all)) <| .r [3, 4] <| .lb 5 E id <| .r [6] <| .lb 7 E id <| .go 8 <| .cl (fun ai V => c_impl_indexOf ix.names (h1.ta.ext V) p0.nm p1 (w := ai) (F := all)) ?_
 intro ai V
 replace ⟨h2, E, C⟩ := (se [aa] V).g3 h2 E C
 rintro az aA ⟨⟨_, rfl, ⟨aB, aC, aD, aE, aF, aG, rfl, ab, J⟩⟩, W⟩
 have Z := al1 E.lt
 have af : Gb w.heap.size ai.heap.size := C.size
 have hkeep_ := W
 replace ⟨h2, C⟩ := (se [aa] W).g2 h2 C
 clear W
 refine ⟨Ext.chg hkeep_, ?_⟩
 have ab := ab.fr Z af
 have av := ab.max
 have J := J.fr Z af
 have aw := J.max
 clear Z
 have al := ab.len
 subst al
 have am := J.len
 subst am
 refine .r [9] <| .d fun aq ag => ?_
 replace ⟨h2, J, C⟩ := (se [aa] ag).g3 h2 J C
 clear ag
 refine .cl (c_EqualFunc_posts ix.posts ((idxOf ix.names).posts) h2.ta J.ta (w := aq) (F := all)) ?_
 rintro aH aI ⟨rfl, ah⟩
 replace C := (se [] ah).g1 C
 clear ah
 exact .r 2 <| .d <| .rt Tryz.func71 Tryz.results71 (.bool (ix.posts == ((idxOf ix.names).posts))) ⟨(congrArg Value.bool (by rw [p0.posts]; simp [idxOf])), C⟩
theorem c_impl_IndexAdd (ix : Idx) (n : List Tag) {w : World} {F : Nat → Prop} {a1 : Option Addr} {n1 c1 : Nat} (h1 : RepS w F a1 n1 c1 ix.names) {a2 : Option Addr} {n2 c2 : Nat} (h2 : RepS w F a2 n2 c2 ix.posts) {a3 : Option Addr} {n3 c3 : Nat} (h3 : RepS w F a3 n3 c3 n) (p0 : IxI ix) (p1 : NsD ix.names) (p2 : NmD n) : Calls Tryz.prog 22 [.agg #[.slice a1 n1 c1, .slice a2 n2 c2], .slice a3 n3 c3].toArray w (rets fun rv w' => (∃ v0, rv = .tuple #[v0, .int .i64 ((addI ix n).2.1), .bool ((addI ix n).2.2)] ∧ VS (fo F w.heap.size) w' ((addI ix n).1 : Idx) v0) ∧ Ext w w') := by
 refine goT Tryz.func22 ?_
 obtain ⟨rfl, dz, h1⟩ := h1.tp
 obtain ⟨rfl, dA, h2⟩ := h2.tp
 obtain ⟨rfl, dB, h3⟩ := h3.tp
 refine .s <| .g <| .np 26 [.slice a1 ix.names.length c1, .slice a2 ix.posts.length c2] fun W ed bR bh E cL => ?_
 replace ⟨h1, h2, h3⟩ := (sn [] bh bR).g3 h1 h2 h3
 have C := bh
 clear bh cL bR
 refine .np 26 [.slice none 0 0, .slice none 0 0] fun V c9 aR bS J cM => ?_
 have bT := nb_new aR E.lt
 have dC := C.cn aR
 replace ⟨h1, h2, h3, E, C⟩ := (sn [W] bS aR).g5 h1 h2 h3 E C
 clear bS cM aR
 refine .r 2 <| .d <| .s <| .s <| .g <| .ln E <| .cl (c_impl_IndexOk ix h1.ta h2.ta p0 p1 (w := c9) (F := all)) ?_
 rintro ee da ⟨rfl, bU⟩
 replace ⟨h1, h3, E, J, C⟩ := (se [V, W] bU).g5 h1 h3 E J C
 clear bU
 refine .r 3 <| .cl (c_impl_NameOk n h3.ta (w := da) (F := all)) ?_
 rintro ef db ⟨rfl, bV⟩
 replace ⟨h1, h3, E, J, C⟩ := (se [V, W] bV).g5 h1 h3 E J C
 clear bV
 cases dD : (nameOk n)
 · refine .r 2 <| .d <| .ct <| .s <| .g <| .r 1 <| .sc [.slice none 0 0, .slice none 0 0] J fun eg bW cN cO => ?_
   replace ⟨h1, h3, E, C⟩ := (so [V, W] bW).g4 h1 h3 E C
   clear bW cO
   exact .r 2 <| .d <| T.ret3 (v := .agg #[.slice none 0 0, .slice none 0 0]) (v' := vI 0) (v'' := .bool false) (by kernel_rfl) Tryz.func22 Tryz.results22 (Res1.cell (ad := ⟨V, 0, none⟩) (by kernel_rfl) ((cN.has 0 [.slice none 0 0, .slice none 0 0] (by kernel_rfl)).loadN (by kernel_rfl))) (Res1.tmp (by kernel_rfl)) (Res1.tmp (by kernel_rfl)) ⟨⟨_, (tup3 rfl (congrArg (Value.int .i64) (by first | rw [addI_no (by assumption)] | (rw [addI_hit p0 (by assumption) (by assumption)]; done) | (rw [addI_full p0 (by assumption) (by assumption) (by assumption)]; done) | (rw [addI_new p0 (by assumption) (by assumption) (by assumption)]; done))) (congrArg Value.bool (by first | rw [addI_no (by assumption)] | (rw [addI_hit p0 (by assumption) (by assumption)]; done) | (rw [addI_full p0 (by assumption) (by assumption) (by assumption)]; done) | (rw [addI_new p0 (by assumption) (by assumption) (by assumption)]; done)))), (VS.of (y := (⟨([] : List (List Tag)), ([] : List Pst)⟩ : Idx)) ⟨_, rfl, ⟨_, _, _, _, _, _, rfl, (RepS.nil' _ _ none 0 (by decide)), (RepS.nil' _ _ none 0 (by decide))⟩⟩ (by first | rw [addI_no (by assumption)] | (rw [addI_hit p0 (by assumption) (by assumption)]; done) | (rw [addI_full p0 (by assumption) (by assumption) (by assumption)]; done) | (rw [addI_new p0 (by assumption) (by assumption) (by assumption)]; done)))⟩, C⟩
 refine .r 2 <| .d <| .cf <| .sk <| .s <| .s <| .g <| .r 1 <| .lb E <| .r 1 <| .cl (c_impl_numberOf ix.names n h1.ta h3.ta (w := db) (F := all)) ?_
 rintro eh aj ⟨rfl, bX⟩
 replace ⟨h1, h3, E, J, C⟩ := (se [V, W] bX).g5 h1 h3 E J C
 clear bX
 refine .r 1 <| .d <| .s <| .g <| .r 1 <| .bp ((idxN n 0 ix.names + 1) > 0) (fun cP => ?_) (fun cP => ?_)
 · refine .d <| .ct <| .s <| .g <| .r 1 <| .lb E <| .cl (c_impl_indexOf ix.names h1.ta (by first | exact p0.nm | exact NmI.add2 p0 (by assumption) (by assumption) (by assumption)) (by first | exact p1 | exact p1.add p2) (w := aj) (F := all)) ?_
   rintro ei ej ⟨⟨_, rfl, ⟨b8, ek, b9, cd, em, ce, rfl, ar, au⟩⟩, bY⟩
   have bi := al2 J.lt E.lt
   have bZ : Gb w.heap.size aj.heap.size := C.size
   replace ⟨h1, h3, E, J, C⟩ := (se [V, W] bY).g5 h1 h3 E J C
   clear bY
   have ar := ar.fr bi bZ
   replace ar := ar.base (G' := fo F w.heap.size) (fun _ _ h => .inr h)
   have dE := ar.max
   have au := au.fr bi bZ
   replace au := au.base (G' := fo F w.heap.size) (fun _ _ h => .inr h)
   have dF := au.max
   clear bi
   have cQ := ar.len
   subst cQ
   have cR := au.len
   subst cR
   refine .r 1 <| .sc [.slice b8 (((idxOf ix.names).names).length) b9, .slice cd (((idxOf ix.names).posts).length) ce] J fun en b0 cS cT => ?_
   replace ⟨h1, h3, E, ar, au, C⟩ := (so [V, W] b0).g6 h1 h3 E ar au C
   clear b0 cT
   exact .r 2 <| .d <| T.ret3 (v := .agg #[.slice b8 (((idxOf ix.names).names).length) b9, .slice cd (((idxOf ix.names).posts).length) ce]) (v' := vI (idxN n 0 ix.names + 1)) (v'' := .bool true) (by kernel_rfl) Tryz.func22 Tryz.results22 (Res1.cell (ad := ⟨V, 0, none⟩) (by kernel_rfl) ((cS.has 0 [.slice b8 (((idxOf ix.names).names).length) b9, .slice cd (((idxOf ix.names).posts).length) ce] (by kernel_rfl)).loadN (by kernel_rfl))) (Res1.tmp (by kernel_rfl)) (Res1.tmp (by kernel_rfl)) ⟨⟨_, (tup3 rfl (congrArg (Value.int .i64) (by first | rw [addI_no (by assumption)] | (rw [addI_hit p0 (by assumption) (by assumption)]; done) | (rw [addI_full p0 (by assumption) (by assumption) (by assumption)]; done) | (rw [addI_new p0 (by assumption) (by assumption) (by assumption)]; done))) (congrArg Value.bool (by first | rw [addI_no (by assumption)] | (rw [addI_hit p0 (by assumption) (by assumption)]; done) | (rw [addI_full p0 (by assumption) (by assumption) (by assumption)]; done) | (rw [addI_new p0 (by assumption) (by assumption) (by assumption)]; done)))), (VS.of (y := (idxOf ix.names)) ⟨_, rfl, ⟨_, _, _, _, _, _, rfl, ar.w1, au.w1⟩⟩ (by first | rw [addI_no (by assumption)] | (rw [addI_hit p0 (by assumption) (by assumption)]; done) | (rw [addI_full p0 (by assumption) (by assumption) (by assumption)]; done) | (rw [addI_new p0 (by assumption) (by assumption) (by assumption)]; done)))⟩, C⟩
 refine .d <| .cf <| .sk <| .s <| .s <| .g <| .r 1 <| .lb E <| .r 1 <| .eq (ix.names.length : Int) 6 (fun cU => ?_) (fun cU => ?_)
 · refine .d <| .ct <| .s <| .g <| .r 1 <| .lb E <| .cl (c_impl_indexOf ix.names h1.ta (by first | exact p0.nm | exact NmI.add2 p0 (by assumption) (by assumption) (by assumption)) (by first | exact p1 | exact p1.add p2) (w := aj) (F := all)) ?_
   rintro eo ep ⟨⟨_, rfl, ⟨cg, es, ci, cj, et, ck, rfl, av, aw⟩⟩, b6⟩
   have bj := al2 J.lt E.lt
   have b7 : Gb w.heap.size aj.heap.size := C.size
   replace ⟨h1, h3, E, J, C⟩ := (se [V, W] b6).g5 h1 h3 E J C
   clear b6
   have av := av.fr bj b7
   replace av := av.base (G' := fo F w.heap.size) (fun _ _ h => .inr h)
   have dG := av.max
   have aw := aw.fr bj b7
   replace aw := aw.base (G' := fo F w.heap.size) (fun _ _ h => .inr h)
   have dH := aw.max
   clear bj
   have cV := av.len
   subst cV
   have cW := aw.len
   subst cW
   refine .sc [.slice cg (((idxOf ix.names).names).length) ci, .slice cj (((idxOf ix.names).posts).length) ck] J fun dI bk cm co => ?_
   replace ⟨h1, h3, E, av, aw, C⟩ := (so [V, W] bk).g6 h1 h3 E av aw C
   clear bk co
   exact .r 2 <| .d <| T.ret3 (v := .agg #[.slice cg (((idxOf ix.names).names).length) ci, .slice cj (((idxOf ix.names).posts).length) ck]) (v' := vI 0) (v'' := .bool false) (by kernel_rfl) Tryz.func22 Tryz.results22 (Res1.cell (ad := ⟨V, 0, none⟩) (by kernel_rfl) ((cm.has 0 [.slice cg (((idxOf ix.names).names).length) ci, .slice cj (((idxOf ix.names).posts).length) ck] (by kernel_rfl)).loadN (by kernel_rfl))) (Res1.tmp (by kernel_rfl)) (Res1.tmp (by kernel_rfl)) ⟨⟨_, (tup3 rfl (congrArg (Value.int .i64) (by first | rw [addI_no (by assumption)] | (rw [addI_hit p0 (by assumption) (by assumption)]; done) | (rw [addI_full p0 (by assumption) (by assumption) (by assumption)]; done) | (rw [addI_new p0 (by assumption) (by assumption) (by assumption)]; done))) (congrArg Value.bool (by first | rw [addI_no (by assumption)] | (rw [addI_hit p0 (by assumption) (by assumption)]; done) | (rw [addI_full p0 (by assumption) (by assumption) (by assumption)]; done) | (rw [addI_new p0 (by assumption) (by assumption) (by assumption)]; done)))), (VS.of (y := (idxOf ix.names)) ⟨_, rfl, ⟨_, _, _, _, _, _, rfl, av.w1, aw.w1⟩⟩ (by first | rw [addI_no (by assumption)] | (rw [addI_hit p0 (by assumption) (by assumption)]; done) | (rw [addI_full p0 (by assumption) (by assumption) (by assumption)]; done) | (rw [addI_new p0 (by assumption) (by assumption) (by assumption)]; done)))⟩, C⟩
 refine .d <| .cf <| .sk <| .s ?_
 replace h1 := h1.into
 replace h3 := h3.into
 have bm : Gb (W + 1) aj.heap.size := E.lt
 have bn : Cov (mtb [V] aj.heap.size) aj V := ⟨.inl (.inl (.head _))⟩
 refine .gd (mtb [V] aj.heap.size) 12 fun cX az => ?_
 replace ⟨h1, h3, E, J, C⟩ := (se [V, W] az).g5 h1 h3 E J C
 have O : Chg (mtb [V] aj.heap.size) aj cX := Chg.stepN (Chg.refl (mtb [V] aj.heap.size) aj) az
 clear az
 refine .r [0] <| .lb 1 E (nS_of (all_cons (Nb.symm bT) all_nil) bm) <| .r [3, 7] <| .lb 8 E (nS_of (all_cons (Nb.symm bT) all_nil) bm) <| .r [9] <| GA.int (i := 10) ((ix.names.length : Int) + 1) (by kernel_rfl) (by have := p0.nm.len; omega) <| .tw 2 4 ?_ ?_
 · refine .cl (fun bo aA => c_impl_cloneNames ix.names (h1.ta.ext aA) (by have := p0.nm.len; omega) (fun n hn => by have := (p0.nm.sz n hn).1; omega) (w := bo) (F := all)) ?_
   intro bo aA
   replace ⟨h1, h3, E, J, C, O⟩ := (se [V, W] aA).g6 h1 h3 E J C O
   rintro dJ dK ⟨⟨ak, cY, cZ, rfl, Z, am⟩, aB⟩
   have bq := al2 J.lt E.lt
   have cp : Gb w.heap.size bo.heap.size := C.size
   have hkeep_ := aB
   have dd := nb_ge am E.lt
   have de := nb_ge am J.lt
   have df : Cov nil w ak := cov_ge am C.size
   have cq : Cov (mtb [V] aj.heap.size) aj ak := cov_ge am O.size
   replace ⟨h1, h3, E, J, C, O⟩ := (sz [V, W] aB am).g6 h1 h3 E J C O
   clear aB am
   refine ⟨Ext.chg hkeep_, ?_⟩
   replace Z := Own.take (s0 := w.heap.size) (M := [V, W]) Z bq cp
   replace Z := Z.base (G' := fo F w.heap.size) (fun _ _ h => .inr h)
   have dg := Z.len; have dh := Z.max
   clear bq
   refine .go 4 <| .ns 1 31 [.slice a3 n.length c3] fun dL br => ?_
   replace ⟨h1, h3, E, J, Z, C, O⟩ := (se [ak, V, W] br).g7 h1 h3 E J Z C O
   clear br
   intro bt dM ao bu aC cr
   have cu := nb_new ao E.lt
   have cv := nb_new ao J.lt
   have bv := nb_new ao Z.lt
   have cw := gb_new ao C.size
   replace ⟨h1, h3, E, J, Z, C, O⟩ := (se [ak, V, W] bu).g7 h1 h3 E J Z C O
   clear bu cr ao
   refine .go 5 <| GE.append (T := 23) (ty := 23) (args := [vS ak cY cZ, vS bt 1 1]) (by kernel_rfl) fun dN bw => ?_
   replace ⟨h1, h3, E, J, Z, aC, C, O⟩ := (se [ak, V, W] bw).g8 h1 h3 E J Z aC C O
   clear bw
   have bd : nin (fo F w.heap.size) [ak, V, W] bt ∧ bt ≠ ak := hap_mk (.inr cw) (all_cons bv (all_cons cv (all_cons cu all_nil))) bv
   obtain ⟨ay, dO, dP, bz, ag, aS, aD, cx⟩ := Z.append1 (P := Tryz.prog) (T := 23) (ty := 23) (y := n) (by kernel_rfl) aC ⟨_, _, _, rfl, ((h3.base (fun _ _ h => h.1)).weak (fun b _ h => own_in (.head _) h))⟩ bd (by have := p0.nm.len; omega)
   refine ⟨_, _, bz, Chg.toS aD (Cov.toS cq), ?_⟩
   clear cx
   replace ⟨h1, h3, E, J, C, O⟩ := (sa [ak, V, W] aD aS).g6 h1 h3 E J C O
   clear aD
   replace ag := ag.rn ak
   clear aS
   have di := ag.len; have dj := ag.max
   refine .go 6 <| .cl (fun bA aE => c_impl_indexOf (ix.names ++ [n]) ((ag.rep).ext aE) (by first | exact p0.nm | exact NmI.add2 p0 (by assumption) (by assumption) (by assumption)) (by first | exact p1 | exact p1.add p2) (w := bA) (F := all)) ?_
   intro bA aE
   replace ⟨h1, h3, E, J, ag, C, O⟩ := (se [ay, V, W] aE).g7 h1 h3 E J ag C O
   rintro dQ dR ⟨⟨_, rfl, ⟨aT, dS, aU, aV, dT, aW, rfl, aa, ab⟩⟩, aF⟩
   have aG := al3 ag.lt J.lt E.lt
   have bB : Gb w.heap.size bA.heap.size := C.size
   have hkeep_ := aF
   replace ⟨h1, h3, E, J, C, O⟩ := (se [ay, V, W] aF).g6 h1 h3 E J C O
   clear aF
   refine ⟨Ext.chg hkeep_, ?_⟩
   have aa := aa.fr aG bB
   replace aa := aa.base (G' := fo F w.heap.size) (fun _ _ h => .inr h)
   have dk := aa.max
   have ab := ab.fr aG bB
   replace ab := ab.base (G' := fo F w.heap.size) (fun _ _ h => .inr h)
   have dm := ab.max
   clear aG
   have cy := aa.len
   subst cy
   have cz := ab.len
   subst cz
   refine .go 11 <| GE.storeB (t' := 26) (o := 0) (v := .agg #[.slice aT (((idxOf (ix.names ++ [n])).names).length) aU, .slice aV (((idxOf (ix.names ++ [n])).posts).length) aW]) [.slice aT (((idxOf (ix.names ++ [n])).names).length) aU, .slice aV (((idxOf (ix.names ++ [n])).posts).length) aW] J (by kernel_rfl) (by kernel_rfl) (by kernel_rfl) fun dU bC => ?_
   replace ⟨h1, h3, E, J, aa, ab, C, O⟩ := (se [ay, V, W] bC).g8 h1 h3 E J aa ab C O
   clear bC
   intro dV aH aI cA
   have hkeep_ := Chg.toS aH (Cov.toS bn)
   clear cA
   replace ⟨h1, h3, E, aa, ab, C, O⟩ := (so [ay, V, W] aH).g7 h1 h3 E aa ab C O
   clear aH
   refine ⟨hkeep_, ?_⟩
   refine .d fun dW bD => ?_
   replace ⟨h1, h3, E, aI, aa, ab, C, O⟩ := (se [ay, V, W] bD).g8 h1 h3 E aI aa ab C O
   clear bD
   replace h1 := h1.outof
   replace h3 := h3.outof
   exact .r 2 <| .d <| T.ret3 (v := .agg #[.slice aT (((idxOf (ix.names ++ [n])).names).length) aU, .slice aV (((idxOf (ix.names ++ [n])).posts).length) aW]) (v' := vI ((ix.names.length : Int) + 1)) (v'' := .bool true) (by kernel_rfl) Tryz.func22 Tryz.results22 (Res1.cell (ad := ⟨V, 0, none⟩) (by kernel_rfl) ((aI.has 0 [.slice aT (((idxOf (ix.names ++ [n])).names).length) aU, .slice aV (((idxOf (ix.names ++ [n])).posts).length) aW] (by kernel_rfl)).loadN (by kernel_rfl))) (Res1.tmp (by kernel_rfl)) (Res1.tmp (by kernel_rfl)) ⟨⟨_, (tup3 rfl (congrArg (Value.int .i64) (by first | rw [addI_no (by assumption)] | (rw [addI_hit p0 (by assumption) (by assumption)]; done) | (rw [addI_full p0 (by assumption) (by assumption) (by assumption)]; done) | (rw [addI_new p0 (by assumption) (by assumption) (by assumption)]; done))) (congrArg Value.bool (by first | rw [addI_no (by assumption)] | (rw [addI_hit p0 (by assumption) (by assumption)]; done) | (rw [addI_full p0 (by assumption) (by assumption) (by assumption)]; done) | (rw [addI_new p0 (by assumption) (by assumption) (by assumption)]; done)))), (VS.of (y := (idxOf (ix.names ++ [n]))) ⟨_, rfl, ⟨_, _, _, _, _, _, rfl, aa.w1, ab.w1⟩⟩ (by first | rw [addI_no (by assumption)] | (rw [addI_hit p0 (by assumption) (by assumption)]; done) | (rw [addI_full p0 (by assumption) (by assumption) (by assumption)]; done) | (rw [addI_new p0 (by assumption) (by assumption) (by assumption)]; done)))⟩, C⟩
 refine .ns 1 31 [.slice a3 n.length c3] fun dX bE => ?_
 replace ⟨h1, h3, E, J, C, O⟩ := (se [V, W] bE).g6 h1 h3 E J C O
 clear bE
 intro bF dY ax bG ah cB
 have cC := nb_new ax E.lt
 have cD := nb_new ax J.lt
 have cE := gb_new ax C.size
 replace ⟨h1, h3, E, J, C, O⟩ := (se [V, W] bG).g6 h1 h3 E J C O
 clear bG cB ax
 refine .go 2 <| .cl (fun bH aJ => c_impl_cloneNames ix.names (h1.ta.ext aJ) (by have := p0.nm.len; omega) (fun n hn => by have := (p0.nm.sz n hn).1; omega) (w := bH) (F := all)) ?_
 intro bH aJ
 replace ⟨h3, E, J, ah, C, O⟩ := (se [V, W] aJ).g6 h3 E J ah C O
 rintro dZ d0 ⟨⟨aq, c7, c8, rfl, af, al⟩, aK⟩
 have bI := al2 J.lt E.lt
 have cF : Gb w.heap.size bH.heap.size := C.size
 have hkeep_ := aK
 have dp := nb_ge al E.lt
 have dq := nb_ge al J.lt
 have bJ := nb_ge al ah.lt
 have dr : Cov nil w aq := cov_ge al C.size
 have cG : Cov (mtb [V] aj.heap.size) aj aq := cov_ge al O.size
 replace ⟨h3, E, J, ah, C⟩ := (sz [V, W] aK al).g5 h3 E J ah C
 clear aK al
 refine ⟨Ext.chg hkeep_, ?_⟩
 replace af := Own.take (s0 := w.heap.size) (M := [V, W]) af bI cF
 replace af := af.base (G' := fo F w.heap.size) (fun _ _ h => .inr h)
 have dt := af.len; have du := af.max
 clear bI
 refine .go 5 <| GE.append (T := 23) (ty := 23) (args := [vS aq c7 c8, vS bF 1 1]) (by kernel_rfl) fun d3 bK => ?_
 replace ⟨h3, E, J, ah, af, C⟩ := (se [aq, V, W] bK).g6 h3 E J ah af C
 clear bK
 have bg : nin (fo F w.heap.size) [aq, V, W] bF ∧ bF ≠ aq := hap_mk (.inr cE) (all_cons (Nb.symm bJ) (all_cons cD (all_cons cC all_nil))) (Nb.symm bJ)
 obtain ⟨aX, d4, d5, bL, ai, bQ, aL, cH⟩ := af.append1 (P := Tryz.prog) (T := 23) (ty := 23) (y := n) (by kernel_rfl) ah ⟨_, _, _, rfl, ((h3.base (fun _ _ h => h.1)).weak (fun b _ h => own_in (.head _) h))⟩ bg (by have := p0.nm.len; omega)
 refine ⟨_, _, bL, Chg.toS aL (Cov.toS cG), ?_⟩
 clear cH
 replace ⟨E, J, C⟩ := (s1 aL).g3 E J C
 clear aL
 replace ai := ai.rn aq
 clear bQ
 have dv := ai.len; have dw := ai.max
 refine .go 6 <| .cl (fun bM aM => c_impl_indexOf (ix.names ++ [n]) ((ai.rep).ext aM) (by first | exact p0.nm | exact NmI.add2 p0 (by assumption) (by assumption) (by assumption)) (by first | exact p1 | exact p1.add p2) (w := bM) (F := all)) ?_
 intro bM aM
 replace ⟨E, J, ai, C⟩ := (se [aX, V, W] aM).g4 E J ai C
 rintro d6 d7 ⟨⟨_, rfl, ⟨aY, d8, aZ, ba, d9, bc, rfl, ac, ae⟩⟩, aN⟩
 have aO := al3 ai.lt J.lt E.lt
 have bN : Gb w.heap.size bM.heap.size := C.size
 have hkeep_ := aN
 replace ⟨J, C⟩ := (se [] aN).g2 J C
 clear aN
 refine ⟨Ext.chg hkeep_, ?_⟩
 have ac := ac.fr aO bN
 replace ac := ac.base (G' := fo F w.heap.size) (fun _ _ h => .inr h)
 have dx := ac.max
 have ae := ae.fr aO bN
 replace ae := ae.base (G' := fo F w.heap.size) (fun _ _ h => .inr h)
 have dy := ae.max
 clear aO
 have cI := ac.len
 subst cI
 have cJ := ae.len
 subst cJ
 refine .go 11 <| GE.storeB (t' := 26) (o := 0) (v := .agg #[.slice aY (((idxOf (ix.names ++ [n])).names).length) aZ, .slice ba (((idxOf (ix.names ++ [n])).posts).length) bc]) [.slice aY (((idxOf (ix.names ++ [n])).names).length) aZ, .slice ba (((idxOf (ix.names ++ [n])).posts).length) bc] J (by kernel_rfl) (by kernel_rfl) (by kernel_rfl) fun ea bO => ?_
 replace ⟨ac, ae, C⟩ := (se [aX, V, W] bO).g3 ac ae C
 clear bO
 intro eb aP aQ cK
 have hkeep_ := Chg.toS aP (Cov.toS bn)
 clear cK
 replace ⟨ac, ae, C⟩ := (so [aX, V, W] aP).g3 ac ae C
 clear aP
 refine ⟨hkeep_, ?_⟩
 refine .d fun ec bP => ?_
 replace ⟨aQ, ac, ae, C⟩ := (se [aX, V, W] bP).g4 aQ ac ae C
 clear bP
 exact .r 2 <| .d <| T.ret3 (v := .agg #[.slice aY (((idxOf (ix.names ++ [n])).names).length) aZ, .slice ba (((idxOf (ix.names ++ [n])).posts).length) bc]) (v' := vI ((ix.names.length : Int) + 1)) (v'' := .bool true) (by kernel_rfl) Tryz.func22 Tryz.results22 (Res1.cell (ad := ⟨V, 0, none⟩) (by kernel_rfl) ((aQ.has 0 [.slice aY (((idxOf (ix.names ++ [n])).names).length) aZ, .slice ba (((idxOf (ix.names ++ [n])).posts).length) bc] (by kernel_rfl)).loadN (by kernel_rfl))) (Res1.tmp (by kernel_rfl)) (Res1.tmp (by kernel_rfl)) ⟨⟨_, (tup3 rfl (congrArg (Value.int .i64) (by first | rw [addI_no (by assumption)] | (rw [addI_hit p0 (by assumption) (by assumption)]; done) | (rw [addI_full p0 (by assumption) (by assumption) (by assumption)]; done) | (rw [addI_new p0 (by assumption) (by assumption) (by assumption)]; done))) (congrArg Value.bool (by first | rw [addI_no (by assumption)] | (rw [addI_hit p0 (by assumption) (by assumption)]; done) | (rw [addI_full p0 (by assumption) (by assumption) (by assumption)]; done) | (rw [addI_new p0 (by assumption) (by assumption) (by assumption)]; done)))), (VS.of (y := (idxOf (ix.names ++ [n]))) ⟨_, rfl, ⟨_, _, _, _, _, _, rfl, ac.w1, ae.w1⟩⟩ (by first | rw [addI_no (by assumption)] | (rw [addI_hit p0 (by assumption) (by assumption)]; done) | (rw [addI_full p0 (by assumption) (by assumption) (by assumption)]; done) | (rw [addI_new p0 (by assumption) (by assumption) (by assumption)]; done)))⟩, C⟩
theorem c_impl_cloneStore (s : Sto) {w : World} {F : Nat → Prop} {a1 : Option Addr} {n1 c1 : Nat} (h1 : RepS w F a1 n1 c1 s.idx.names) {a2 : Option Addr} {n2 c2 : Nat} (h2 : RepS w F a2 n2 c2 s.idx.posts) {a3 : Option Addr} {n3 c3 : Nat} (h3 : RepS w F a3 n3 c3 s.parts) {a4 : Option Addr} {n4 c4 : Nat} (h4 : RepS w F a4 n4 c4 s.mem) (p0 : NmI s.idx.names) (p1 : NsD s.idx.names) (p2 : StoSz s) : Calls Tryz.prog 62 [.agg #[.slice a1 n1 c1, .slice a2 n2 c2, .slice a3 n3 c3, .slice a4 n4 c4]].toArray w (rets fun rv w' => (∃ (a0 : Option Addr) (n0 c0 : Nat) (a1 : Option Addr) (n1 c1 : Nat) (a2 : Option Addr) (n2 c2 : Nat) (r3 n3 c3 : Nat), rv = .agg #[.slice a0 n0 c0, .slice a1 n1 c1, .slice a2 n2 c2, .slice (some ⟨r3, 0, none⟩) n3 c3] ∧ RepS w' (nin (ge w.heap.size) [r3]) a0 n0 c0 ((((copyS s)).idx).names) ∧ RepS w' (nin (ge w.heap.size) [r3]) a1 n1 c1 ((((copyS s)).idx).posts) ∧ RepS w' (nin (ge w.heap.size) [r3]) a2 n2 c2 (((copyS s)).parts) ∧ Own w' r3 51 (nin (ge w.heap.size) [r3]) n3 c3 (((copyS s)).mem) ∧ w.heap.size ≤ r3) ∧ Ext w w') := by
 refine goT Tryz.func62 ?_
 obtain ⟨rfl, dy, h1⟩ := h1.tp
 obtain ⟨rfl, dz, h2⟩ := h2.tp
 obtain ⟨rfl, dA, h3⟩ := h3.tp
 obtain ⟨rfl, dB, h4⟩ := h4.tp
 refine .s <| .g <| .np 30 [.slice a1 s.idx.names.length c1, .slice a2 s.idx.posts.length c2, .slice a3 s.parts.length c3, .slice a4 s.mem.length c4] fun W d3 bC aP J cB => ?_
 replace ⟨h1, h3, h4⟩ := (sn [] aP bC).g3 h1 h3 h4
 have C := aP
 clear aP cB bC
 refine .np 30 [.slice none 0 0, .slice none 0 0, .slice none 0 0, .slice none 0 0] fun Z cC aL bD E cD => ?_
 have dC := nb_new aL J.lt
 have dD := C.cn aL
 replace ⟨h1, h3, h4, J, C⟩ := (sn [W] bD aL).g5 h1 h3 h4 J C
 clear bD cD aL
 refine .d <| .s ?_
 replace h1 := h1.into
 replace h3 := h3.into
 replace h4 := h4.into
 have aQ : Gb (W + 1) cC.heap.size := J.lt
 refine .gd (mtb [] cC.heap.size) 10 fun d4 bE => ?_
 replace ⟨h1, h3, h4, J, E, C⟩ := (se [Z, W] bE).g6 h1 h3 h4 J E C
 clear bE
 refine .r [0, 1] <| .lb 2 J (nS_of all_nil aQ) <| .r [4] <| .lb 5 J (nS_of all_nil aQ) <| .r [8] <| .lb 9 J (nS_of all_nil aQ) <| .tw 3 7 ?_ ?_
 · refine .cl (fun bU aR => c_impl_indexOf s.idx.names (h1.ta.ext aR) p0 p1 (w := bU) (F := all)) ?_
   intro bU aR
   replace ⟨h1, h3, h4, J, E, C⟩ := (se [Z, W] aR).g6 h1 h3 h4 J E C
   rintro d5 d6 ⟨⟨_, rfl, ⟨bw, d7, bz, bA, d8, bB, rfl, O, V⟩⟩, aS⟩
   have aT := al2 E.lt J.lt
   have bF : Gb w.heap.size bU.heap.size := C.size
   have hkeep_ := aS
   replace ⟨h1, h3, h4, J, E, C⟩ := (se [Z, W] aS).g6 h1 h3 h4 J E C
   clear aS
   refine ⟨Ext.chg hkeep_, ?_⟩
   have O := O.fr aT bF
   have dE := O.max
   have V := V.fr aT bF
   have dF := V.max
   clear aT
   have cE := O.len
   subst cE
   have cF := V.len
   subst cF
   refine .tw 6 7 ?_ ?_
   · refine .cl (fun bV aU => c_impl_cloneParts s.parts (h3.ta.ext aU) (by have := p2.2.1; omega) p2.2.2.1 (w := bV) (F := all)) ?_
     intro bV aU
     replace ⟨h1, h3, h4, J, E, O, V, C⟩ := (se [Z, W] aU).g8 h1 h3 h4 J E O V C
     rintro d9 ea ⟨⟨aB, cG, cH, rfl, ab, aC⟩, aV⟩
     have bG := al2 E.lt J.lt
     have cI : Gb w.heap.size bV.heap.size := C.size
     have hkeep_ := aV
     have dG := nb_ge aC J.lt
     have dH := nb_ge aC E.lt
     have cJ := gb_ge aC C.size
     replace ⟨h1, h3, h4, J, E, O, V, C⟩ := (sz [Z, W] aV aC).g8 h1 h3 h4 J E O V C
     clear aV aC
     refine ⟨Ext.chg hkeep_, ?_⟩
     replace ab := Own.take (s0 := w.heap.size) (M := [Z, W]) ab bG cI
     have dI := ab.len; have dJ := ab.max
     clear bG
     refine .go 7 <| .ns 0 51 [] fun eb bH => ?_
     replace ⟨h1, h3, h4, J, E, O, V, ab, C⟩ := (se [aB, Z, W] bH).g9 h1 h3 h4 J E O V ab C
     clear bH
     intro aW cV ax bI cK cL
     have dK := nb_new ax J.lt
     have cM := nb_new ax E.lt
     have bW := nb_new ax ab.lt
     have bX := gb_new ax C.size
     have cW := C.cn ax
     replace ⟨h1, h3, h4, J, E, O, V, ab, C⟩ := (sn [aB, Z, W] bI ax).g9 h1 h3 h4 J E O V ab C
     clear bI cL ax
     have aD : Own (α := Smp) cV aW 51 (nin (ge w.heap.size) [aW, aB, Z, W]) 0 0 [] := Own.nil' cK
     refine .d fun dL aX => ?_
     replace ⟨h1, h3, h4, J, E, O, V, ab, aD, C⟩ := (se [aW, aB, Z, W] aX).g10 h1 h3 h4 J E O V ab aD C
     clear aX
     replace h1 := h1.outof
     replace h3 := h3.outof
     replace h4 := h4.outof
     refine RG.appendF (T := 28) (ty := 28) flat_smp aD h4 (by kernel_rfl) (by kernel_rfl) (fun b h e => h.2 (e ▸ (.head _))) (by have := p2.2.2.2; omega) fun aM bJ dM ah am aY => ?_
     have cX := nb_or am cM E.lt
     have cY := nb_or am bW ab.lt
     have bY := gb_or am bX C.size
     replace ⟨h1, h3, h4, J, E, O, V, ab, C⟩ := (sa [aW, aB, Z, W] aY am).g9 h1 h3 h4 J E O V ab C
     clear aY
     replace ah := ah.rn aW
     clear am
     have cZ := ah.len; have c7 := ah.max
     refine .r 1 <| .sc [.slice bw (((idxOf s.idx.names).names).length) bz, .slice bA (((idxOf s.idx.names).posts).length) bB, vS aB cG cH, vS aM (0 + s.mem.length) bJ] E fun cN aZ bZ b0 => ?_
     replace ⟨h1, h3, h4, J, O, V, ab, ah, C⟩ := (so [aM, aB, Z, W] aZ).g9 h1 h3 h4 J O V ab ah C
     clear aZ b0
     refine .d ?_
     have cO := ab.sl cJ
     replace ⟨h1, h3, h4, O, V, ah⟩ := (sd cN [aM, aB, Z, W] aB).g6 h1 h3 h4 O V ah
     exact .rb Tryz.func62 Tryz.results62 bZ ⟨⟨bw, ((idxOf s.idx.names).names).length, bz, bA, ((idxOf s.idx.names).posts).length, bB, (some ⟨aB, 0, none⟩), cG, cH, aM, (0 + s.mem.length), bJ, rfl, ((RepS.lessM O (all_cons (.head _) all_nil)).eqx (by rfl)), ((RepS.lessM V (all_cons (.head _) all_nil)).eqx (by rfl)), ((RepS.lessM cO (all_cons (.head _) all_nil)).eqx (by rfl)), ((Own.lessM ah (all_cons (.head _) all_nil)).eqx (by rfl)), bY⟩, C⟩
   refine .ns 0 51 [] fun dN ba => ?_
   replace ⟨h1, h3, h4, J, E, O, V, C⟩ := (se [Z, W] ba).g8 h1 h3 h4 J E O V C
   clear ba
   intro aw cP ar bc b6 b7
   have c8 := nb_new ar J.lt
   have b8 := nb_new ar E.lt
   have b9 := gb_new ar C.size
   have c9 := C.cn ar
   replace ⟨h1, h3, h4, J, E, O, V, C⟩ := (sn [Z, W] bc ar).g8 h1 h3 h4 J E O V C
   clear bc b7 ar
   have ai : Own (α := Smp) cP aw 51 (nin (ge w.heap.size) [aw, Z, W]) 0 0 [] := Own.nil' b6
   refine .go 6 <| .cl (fun bd aE => c_impl_cloneParts s.parts (h3.ta.ext aE) (by have := p2.2.1; omega) p2.2.2.1 (w := bd) (F := all)) ?_
   intro bd aE
   replace ⟨h1, h3, h4, J, E, O, V, ai, C⟩ := (se [aw, Z, W] aE).g9 h1 h3 h4 J E O V ai C
   rintro dO dP ⟨⟨ay, bK, bL, rfl, af, au⟩, aF⟩
   have bg := al3 ai.lt E.lt J.lt
   have cd : Gb w.heap.size bd.heap.size := C.size
   have hkeep_ := aF
   have da := nb_ge au J.lt
   have db := nb_ge au E.lt
   have ce := nb_ge au ai.lt
   have cg := gb_ge au C.size
   replace ⟨h1, h3, h4, J, E, O, V, ai, C⟩ := (sz [aw, Z, W] aF au).g9 h1 h3 h4 J E O V ai C
   clear aF au
   refine ⟨Ext.chg hkeep_, ?_⟩
   replace af := Own.take (s0 := w.heap.size) (M := [aw, Z, W]) af bg cd
   have dd := af.len; have de := af.max
   clear bg
   refine .d fun dQ bh => ?_
   replace ⟨h1, h3, h4, J, E, O, V, ai, af, C⟩ := (se [ay, aw, Z, W] bh).g10 h1 h3 h4 J E O V ai af C
   clear bh
   replace h1 := h1.outof
   replace h3 := h3.outof
   replace h4 := h4.outof
   refine RG.appendF (T := 28) (ty := 28) flat_smp ai h4 (by kernel_rfl) (by kernel_rfl) (fun b h e => h.2 (e ▸ (.tail _ (.head _)))) (by have := p2.2.2.2; omega) fun aN bM dR aj ao bi => ?_
   have df := nb_or ao b8 E.lt
   have dg := nb_or ao (Nb.symm ce) af.lt
   have ci := gb_or ao b9 C.size
   replace ⟨h1, h3, h4, J, E, O, V, af, C⟩ := (sa [ay, aw, Z, W] bi ao).g9 h1 h3 h4 J E O V af C
   clear bi
   replace aj := aj.rn aw
   clear ao
   have dh := aj.len; have di := aj.max
   refine .r 1 <| .sc [.slice bw (((idxOf s.idx.names).names).length) bz, .slice bA (((idxOf s.idx.names).posts).length) bB, vS ay bK bL, vS aN (0 + s.mem.length) bM] E fun cQ bj cj ck => ?_
   replace ⟨h1, h3, h4, J, O, V, aj, af, C⟩ := (so [ay, aN, Z, W] bj).g9 h1 h3 h4 J O V aj af C
   clear bj ck
   refine .d ?_
   have cR := af.sl cg
   replace ⟨h1, h3, h4, O, V, aj⟩ := (sd cQ [ay, aN, Z, W] ay).g6 h1 h3 h4 O V aj
   exact .rb Tryz.func62 Tryz.results62 cj ⟨⟨bw, ((idxOf s.idx.names).names).length, bz, bA, ((idxOf s.idx.names).posts).length, bB, (some ⟨ay, 0, none⟩), bK, bL, aN, (0 + s.mem.length), bM, rfl, ((RepS.lessM O (all_cons (.head _) all_nil)).eqx (by rfl)), ((RepS.lessM V (all_cons (.head _) all_nil)).eqx (by rfl)), ((RepS.lessM cR (all_cons (.head _) all_nil)).eqx (by rfl)), ((Own.lessM aj (all_cons (.head _) all_nil)).eqx (by rfl)), ci⟩, C⟩
 refine .ns 0 51 [] fun dS bk => ?_
 replace ⟨h1, h3, h4, J, E, C⟩ := (se [Z, W] bk).g6 h1 h3 h4 J E C
 clear bk
 intro al cS az bm cm co
 have cp := nb_new az E.lt
 have cq := gb_new az C.size
 have dj := C.cn az
 replace ⟨h1, h3, h4, J, E, C⟩ := (sn [Z, W] bm az).g6 h1 h3 h4 J E C
 clear bm co az
 have aa : Own (α := Smp) cS al 51 (nin (ge w.heap.size) [al, Z, W]) 0 0 [] := Own.nil' cm
 refine .go 3 <| .cl (fun bn aG => c_impl_indexOf s.idx.names (h1.ta.ext aG) p0 p1 (w := bn) (F := all)) ?_
 intro bn aG
 replace ⟨h3, h4, J, E, aa, C⟩ := (se [al, Z, W] aG).g6 h3 h4 J E aa C
 rintro dT dU ⟨⟨_, rfl, ⟨bN, dV, bO, bP, dW, bQ, rfl, ac, ae⟩⟩, aH⟩
 have aI := al3 aa.lt E.lt J.lt
 have bo : Gb w.heap.size bn.heap.size := C.size
 have hkeep_ := aH
 replace ⟨h3, h4, J, E, aa, C⟩ := (se [al, Z, W] aH).g6 h3 h4 J E aa C
 clear aH
 refine ⟨Ext.chg hkeep_, ?_⟩
 have ac := ac.fr aI bo
 have dk := ac.max
 have ae := ae.fr aI bo
 have dm := ae.max
 clear aI
 have cr := ac.len
 subst cr
 have cu := ae.len
 subst cu
 refine .go 6 <| .cl (fun bq aJ => c_impl_cloneParts s.parts (h3.ta.ext aJ) (by have := p2.2.1; omega) p2.2.2.1 (w := bq) (F := all)) ?_
 intro bq aJ
 replace ⟨h4, J, E, aa, ac, ae, C⟩ := (se [al, Z, W] aJ).g7 h4 J E aa ac ae C
 rintro dX dY ⟨⟨aA, bR, bS, rfl, ag, av⟩, aK⟩
 have br := al3 aa.lt E.lt J.lt
 have cv : Gb w.heap.size bq.heap.size := C.size
 have hkeep_ := aK
 have dp := nb_ge av J.lt
 have dq := nb_ge av E.lt
 have cw := nb_ge av aa.lt
 have cx := gb_ge av C.size
 replace ⟨h4, E, aa, ac, ae, C⟩ := (sz [al, Z, W] aK av).g6 h4 E aa ac ae C
 clear aK av
 refine ⟨Ext.chg hkeep_, ?_⟩
 replace ag := Own.take (s0 := w.heap.size) (M := [al, Z, W]) ag br cv
 have dr := ag.len; have dt := ag.max
 clear br
 refine .d fun dZ bt => ?_
 replace ⟨h4, E, aa, ac, ae, ag, C⟩ := (se [aA, al, Z, W] bt).g7 h4 E aa ac ae ag C
 clear bt
 replace h4 := h4.outof
 refine RG.appendF (T := 28) (ty := 28) flat_smp aa h4 (by kernel_rfl) (by kernel_rfl) (fun b h e => h.2 (e ▸ (.tail _ (.head _)))) (by have := p2.2.2.2; omega) fun aO bT d0 ak aq bu => ?_
 have du := nb_or aq cp E.lt
 have dv := nb_or aq (Nb.symm cw) ag.lt
 have cy := gb_or aq cq C.size
 replace ⟨E, ac, ae, ag, C⟩ := (sa [aA, al, Z, W] bu aq).g5 E ac ae ag C
 clear bu
 replace ak := ak.rn al
 clear aq
 have dw := ak.len; have dx := ak.max
 refine .r 1 <| .sc [.slice bN (((idxOf s.idx.names).names).length) bO, .slice bP (((idxOf s.idx.names).posts).length) bQ, vS aA bR bS, vS aO (0 + s.mem.length) bT] E fun cT bv cz cA => ?_
 replace ⟨ak, ac, ae, ag, C⟩ := (so [aA, aO, Z, W] bv).g5 ak ac ae ag C
 clear bv cA
 refine .d ?_
 have cU := ag.sl cx
 replace ⟨ak, ac, ae⟩ := (sd cT [aA, aO, Z, W] aA).g3 ak ac ae
 exact .rb Tryz.func62 Tryz.results62 cz ⟨⟨bN, ((idxOf s.idx.names).names).length, bO, bP, ((idxOf s.idx.names).posts).length, bQ, (some ⟨aA, 0, none⟩), bR, bS, aO, (0 + s.mem.length), bT, rfl, ((RepS.lessM ac (all_cons (.head _) all_nil)).eqx (by rfl)), ((RepS.lessM ae (all_cons (.head _) all_nil)).eqx (by rfl)), ((RepS.lessM cU (all_cons (.head _) all_nil)).eqx (by rfl)), ((Own.lessM ak (all_cons (.head _) all_nil)).eqx (by rfl)), cy⟩, C⟩
theorem c_impl_StoreOk (s : Sto) {w : World} {F : Nat → Prop} {a1 : Option Addr} {n1 c1 : Nat} (h1 : RepS w F a1 n1 c1 s.idx.names) {a2 : Option Addr} {n2 c2 : Nat} (h2 : RepS w F a2 n2 c2 s.idx.posts) {a3 : Option Addr} {n3 c3 : Nat} (h3 : RepS w F a3 n3 c3 s.parts) {a4 : Option Addr} {n4 c4 : Nat} (h4 : RepS w F a4 n4 c4 s.mem) (p0 : SD s) : Calls Tryz.prog 26 [.agg #[.slice a1 n1 c1, .slice a2 n2 c2, .slice a3 n3 c3, .slice a4 n4 c4]].toArray w (rets fun rv w' => rv = .bool (storeOk s) ∧ Ext w w') := by
 refine goT Tryz.func26 ?_
 obtain ⟨rfl, bV, h1⟩ := h1.tp
 obtain ⟨rfl, bW, h2⟩ := h2.tp
 obtain ⟨rfl, bX, h3⟩ := h3.tp
 obtain ⟨rfl, bY, h4⟩ := h4.tp
 refine .s <| .g <| .np 30 [.slice a1 s.idx.names.length c1, .slice a2 s.idx.posts.length c2, .slice a3 s.parts.length c3, .slice a4 s.mem.length c4] fun J bB aG am E aX => ?_
 replace ⟨h1, h2, h3, h4⟩ := (sn [] am aG).g4 h1 h2 h3 h4
 have C := am
 clear am aX aG
 refine .r 1 <| .d <| .s <| .s <| .g <| .r 1 <| .ln E <| .cl (c_impl_IndexOk s.idx h1.ta h2.ta p0.ix p0.nd (w := bB) (F := all)) ?_
 rintro cx aY ⟨rfl, aH⟩
 replace ⟨h1, h2, h3, h4, E, C⟩ := (se [J] aH).g6 h1 h2 h3 h4 E C
 clear aH
 refine .r 3 <| .lb E <| .r 1 <| .bp ((s.parts.length : Int) > 6) (fun aZ => .r 7 <| .d <| .ct <| .s <| .g <| .r 1 <| .d <| .rt Tryz.func26 Tryz.results26 (.bool false) ⟨(congrArg Value.bool (by symm; first | exact storeOk_1 (by omega) | exact storeOk_2 (allNo (by assumption) (by assumption) (by first | exact partIn_1 (by assumption) | exact partIn_2 (by assumption) | exact partIn_3 (by assumption) (by assumption) (by assumption))) | exact storeOk_3 (allNo (by assumption) (by assumption) (by simp [memOk, *])) | exact storeOk_4 (cntNo (by assumption) (by omega) (by omega) (by omega)))), C⟩) fun aZ => .r 3 <| .lb E <| .r 1 <| .bp ((s.mem.length : Int) > 20) (fun ba => .r 1 <| .d <| .ct <| .s <| .g <| .r 1 <| .d <| .rt Tryz.func26 Tryz.results26 (.bool false) ⟨(congrArg Value.bool (by symm; first | exact storeOk_1 (by omega) | exact storeOk_2 (allNo (by assumption) (by assumption) (by first | exact partIn_1 (by assumption) | exact partIn_2 (by assumption) | exact partIn_3 (by assumption) (by assumption) (by assumption))) | exact storeOk_3 (allNo (by assumption) (by assumption) (by simp [memOk, *])) | exact storeOk_4 (cntNo (by assumption) (by omega) (by omega) (by omega)))), C⟩) fun ba => .r 1 <| .d <| .cf <| .sk <| .s <| .g <| .r 2 <| .lb E <| .r 2 <| .d <| .s <| .s <| .g <| .r 1 <| .lb E <| .r 2 <| .d <| .b 0 <| T.loop (X := Nat) 0 (fun k => [(1, .pointer (some ⟨J, 0, none⟩)), (3, vI (s.idx.names.length : Int)), (30, .slice a3 s.parts.length c3), (31, vI (s.parts.length : Int)), (32, vI (k : Int))]) (fun k ao => Chg (ins []) aY ao ∧ (k ≤ s.parts.length) ∧ ((s.parts.drop k).all (fun p => partIn p s.idx.names.length) = s.parts.all (fun p => partIn p s.idx.names.length))) (fun k => s.parts.length - k) (by kernel_rfl) ⟨by kernel_rfl, by kernel_rfl, by kernel_rfl, by kernel_rfl, by kernel_rfl, trivial⟩ ⟨Chg.refl _ _, (by simp), (by simp)⟩ ?_
 rintro k cy ao ⟨O, bZ, b0⟩ aq
 have aI : Mv [J] [J] aY ao := Mv.inl O all_nil (all_cons (.inl (.head _)) all_nil)
 replace ⟨h1, h2, h3, h4, E, C⟩ := (sp aI O).g6 h1 h2 h3 h4 E C
 clear aI
 refine .s <| .g <| .bp ((k : Int) < (s.parts.length : Int)) (fun bc => ?_) (fun bc => ?_)
 · refine .d <| .s <| .ct <| .sk <| .s <| .b 1 <| .s <| .g ?_
   have bd : k < s.parts.length := (by omega)
   refine .ix k 2 h3 bd ?_
   obtain ⟨ac, ar⟩ : ∃ y, s.parts[k]? = some y := ⟨_, List.getElem?_eq_getElem (by omega)⟩
   have b6 := drop_at ar; have bA := List.mem_of_getElem? ar
   obtain ⟨_, ⟨bC, cz, bD, bE, cA, bF, rfl, aa, ai⟩, bg⟩ := h3.elem k ac ar
   have bh := aa.len
   subst bh
   have b7 := aa.max
   have bi := ai.len
   subst bi
   have b8 := ai.max
   refine .lg 0 bg <| .np 75 [.slice none 0 0, .slice none 0 0] fun aF cB ae aJ bj bk => ?_
   have b9 := nb_new ae E.lt
   have cd := C.cn ae
   have ce := O.cn ae
   replace ⟨h1, h2, h3, h4, E, aa, ai, C, O⟩ := (sn [J] aJ ae).g9 h1 h2 h3 h4 E aa ai C O
   clear aJ bk ae
   refine .sc [.slice bC ac.ids.length bD, .slice bE ac.blocks.length bF] bj fun bG aK af bm => ?_
   replace ⟨h1, h2, h3, h4, E, aa, ai, C, O⟩ := (so [aF, J] aK).g9 h1 h2 h3 h4 E aa ai C O
   clear aK bm
   refine .d <| .s <| .g <| .ln af <| .cl (c_impl_PartOk ac aa.ta ai.ta (w := bG) (F := all)) ?_
   rintro cC bH ⟨rfl, aL⟩
   replace ⟨h1, h2, h3, h4, E, aa, af, C, O⟩ := (se [aF, J] aL).g9 h1 h2 h3 h4 E aa af C O
   clear aL
   cases cg : (partOk ac)
   · exact .r 14 <| .d <| .ct <| .s <| .g <| .r 1 <| .d <| .rt Tryz.func26 Tryz.results26 (.bool false) ⟨(congrArg Value.bool (by symm; first | exact storeOk_1 (by omega) | exact storeOk_2 (allNo (by assumption) (by assumption) (by first | exact partIn_1 (by assumption) | exact partIn_2 (by assumption) | exact partIn_3 (by assumption) (by assumption) (by assumption))) | exact storeOk_3 (allNo (by assumption) (by assumption) (by simp [memOk, *])) | exact storeOk_4 (cntNo (by assumption) (by omega) (by omega) (by omega)))), C⟩
   refine .r 3 <| .lb af <| .r 1 <| .eq (ac.ids.length : Int) 0 (fun bn => .r 8 <| .d <| .ct <| .s <| .g <| .r 1 <| .d <| .rt Tryz.func26 Tryz.results26 (.bool false) ⟨(congrArg Value.bool (by symm; first | exact storeOk_1 (by omega) | exact storeOk_2 (allNo (by assumption) (by assumption) (by first | exact partIn_1 (by assumption) | exact partIn_2 (by assumption) | exact partIn_3 (by assumption) (by assumption) (by assumption))) | exact storeOk_3 (allNo (by assumption) (by assumption) (by simp [memOk, *])) | exact storeOk_4 (cntNo (by assumption) (by omega) (by omega) (by omega)))), C⟩) fun bn => .r 3 <| .lb af <| .cl (c_slices_Max_int_int ac.ids aa.ta (by omega) (w := bH) (F := all)) ?_
   rintro cD bo ⟨rfl, aM⟩
   replace ⟨h1, h2, h3, h4, E, C, O⟩ := (se [aF, J] aM).g7 h1 h2 h3 h4 E C O
   clear aM
   refine .r 1 <| .bp (maxOf ac.ids > (s.idx.names.length : Int)) (fun bq => .r 1 <| .d <| .ct <| .s <| .g <| .r 1 <| .d <| .rt Tryz.func26 Tryz.results26 (.bool false) ⟨(congrArg Value.bool (by symm; first | exact storeOk_1 (by omega) | exact storeOk_2 (allNo (by assumption) (by assumption) (by first | exact partIn_1 (by assumption) | exact partIn_2 (by assumption) | exact partIn_3 (by assumption) (by assumption) (by assumption))) | exact storeOk_3 (allNo (by assumption) (by assumption) (by simp [memOk, *])) | exact storeOk_4 (cntNo (by assumption) (by omega) (by omega) (by omega)))), C⟩) fun bq => .r 1 <| .d <| .cf <| .sk <| .ib 1 <| .g <| RG.int ((k : Int) + 1) (by kernel_rfl) (by have := p0.nm.len; omega) <| .r 1 <| .d ?_
   have br : Mv [aF, J] [J] bo bo := Mv.less (all_cons (.tail _ (.head _)) all_nil)
   replace ⟨h1, h2, h3, h4⟩ := (sp br (Chg.refl nil _)).g4 h1 h2 h3 h4
   exact aq (k + 1) _ _ ⟨by kernel_rfl, by kernel_rfl, by kernel_rfl, by kernel_rfl, by kernel_rfl, trivial⟩ ⟨O, (by omega), (by exact allStep (by assumption) (by assumption) (partIn_4 (by assumption) (by assumption) (by assumption)))⟩ (by first | omega | (simp only []; omega))
 refine .d <| .s <| .cf <| .x 0 rfl <| .s <| .s <| .g <| .r 1 <| .lb E <| .r 2 <| .d <| .b 2 <| T.loop (X := Nat) 0 (fun k => [(1, .pointer (some ⟨J, 0, none⟩)), (3, vI (s.idx.names.length : Int)), (54, .slice a4 s.mem.length c4), (55, vI (s.mem.length : Int)), (56, vI (k : Int))]) (fun k au => Chg (ins []) ao au ∧ (k ≤ s.mem.length) ∧ (s.parts.all (fun p => partIn p s.idx.names.length) = true) ∧ ((s.mem.drop k).all (memOk s.idx.names.length) = s.mem.all (memOk s.idx.names.length))) (fun k => s.mem.length - k) (by kernel_rfl) ⟨by kernel_rfl, by kernel_rfl, by kernel_rfl, by kernel_rfl, by kernel_rfl, trivial⟩ ⟨Chg.refl _ _, (by simp), (by exact allEnd (by assumption) (by omega)), (by simp)⟩ ?_
 rintro k cE au ⟨V, ci, cj, ck⟩ av
 have aN : Mv [J] [J] ao au := Mv.inl V all_nil (all_cons (.inl (.head _)) all_nil)
 replace ⟨h1, h2, h3, h4, E, C⟩ := (sp aN V).g6 h1 h2 h3 h4 E C
 clear aN
 refine .s <| .g <| .bp ((k : Int) < (s.mem.length : Int)) (fun bt => ?_) (fun bt => ?_)
 · refine .d <| .s <| .ct <| .sk <| .s <| .b 3 <| .s <| .g ?_
   have bu : k < s.mem.length := (by omega)
   refine .ix k 3 h4 bu ?_
   obtain ⟨ag, aj⟩ : ∃ y, s.mem[k]? = some y := ⟨_, List.getElem?_eq_getElem (by omega)⟩
   have bI := drop_at aj; have bv := List.mem_of_getElem? aj
   obtain ⟨_, rfl, aP⟩ := h4.elem k ag aj
   refine .lg 0 aP <| .np 51 [vI 0, vI 0, vI 0] fun ak cm W aw aQ aR => ?_
   have bJ := nb_new W E.lt
   have bK := C.cn W
   have bL := V.cn W
   replace ⟨h1, h2, h3, h4, E, C, V⟩ := (sn [J] aw W).g7 h1 h2 h3 h4 E C V
   clear aw aR W
   refine .sc [vI ag.id, vI ag.row.t, vI ag.row.v] aQ fun bw ax ab aS => ?_
   replace ⟨h1, h2, h3, h4, E, C, V⟩ := (so [ak, J] ax).g7 h1 h2 h3 h4 E C V
   clear ax aS
   refine .d <| .s <| .g <| .r 1 <| .lb ab <| .r 1 <| .cl (c_impl_within ag.id 1 (s.idx.names.length : Int) (w := bw) (F := all)) ?_
   rintro co bz ⟨rfl, ay⟩
   replace ⟨h1, h2, h3, h4, E, ab, C, V⟩ := (se [ak, J] ay).g8 h1 h2 h3 h4 E ab C V
   clear ay
   cases az : (inR ag.id 1 (s.idx.names.length : Int))
   · have bM := inR_f az
     exact .r 7 <| .d <| .ct <| .s <| .g <| .r 1 <| .d <| .rt Tryz.func26 Tryz.results26 (.bool false) ⟨(congrArg Value.bool (by symm; first | exact storeOk_1 (by omega) | exact storeOk_2 (allNo (by assumption) (by assumption) (by first | exact partIn_1 (by assumption) | exact partIn_2 (by assumption) | exact partIn_3 (by assumption) (by assumption) (by assumption))) | exact storeOk_3 (allNo (by assumption) (by assumption) (by simp [memOk, *])) | exact storeOk_4 (cntNo (by assumption) (by omega) (by omega) (by omega)))), C⟩
   have bN := inR_t az
   refine .r 3 <| .ln ab <| .cl (c_impl_rowOk ag.row (w := bz) (F := all)) ?_
   rintro cp aO ⟨rfl, aA⟩
   replace ⟨h1, h2, h3, h4, E, C, V⟩ := (se [ak, J] aA).g7 h1 h2 h3 h4 E C V
   clear aA
   cases bO : (rowOk ag.row)
   · exact .r 2 <| .d <| .ct <| .s <| .g <| .r 1 <| .d <| .rt Tryz.func26 Tryz.results26 (.bool false) ⟨(congrArg Value.bool (by symm; first | exact storeOk_1 (by omega) | exact storeOk_2 (allNo (by assumption) (by assumption) (by first | exact partIn_1 (by assumption) | exact partIn_2 (by assumption) | exact partIn_3 (by assumption) (by assumption) (by assumption))) | exact storeOk_3 (allNo (by assumption) (by assumption) (by simp [memOk, *])) | exact storeOk_4 (cntNo (by assumption) (by omega) (by omega) (by omega)))), C⟩
   refine .r 2 <| .d <| .cf <| .sk <| .ib 3 <| .g <| RG.int ((k : Int) + 1) (by kernel_rfl) (by have := p0.nm.len; omega) <| .r 1 <| .d ?_
   have aT : Mv [ak, J] [J] aO aO := Mv.less (all_cons (.tail _ (.head _)) all_nil)
   replace ⟨h1, h2, h3, h4⟩ := (sp aT (Chg.refl nil _)).g4 h1 h2 h3 h4
   exact av (k + 1) _ _ ⟨by kernel_rfl, by kernel_rfl, by kernel_rfl, by kernel_rfl, by kernel_rfl, trivial⟩ ⟨V, (by omega), (by assumption), (by exact allStep (by assumption) (by assumption) (by simp only [memOk, *]; rfl))⟩ (by first | omega | (simp only []; omega))
 refine .d <| .s <| .cf <| .x 2 rfl <| .s <| .s <| .g <| .r 1 <| .d <| .b 4 <| T.loop (X := Nat) 1 (fun k => [(1, .pointer (some ⟨J, 0, none⟩)), (3, vI (s.idx.names.length : Int)), (8, vI (k : Int))]) (fun k ah => Chg (ins []) au ah ∧ (1 ≤ k) ∧ (k ≤ s.idx.names.length + 1) ∧ (s.parts.all (fun p => partIn p s.idx.names.length) = true) ∧ (s.mem.all (memOk s.idx.names.length) = true) ∧ (((List.range s.idx.names.length).drop (k - 1)).all (cntOk s) = (List.range s.idx.names.length).all (cntOk s))) (fun k => s.idx.names.length + 1 - k) (by kernel_rfl) ⟨by kernel_rfl, by kernel_rfl, by kernel_rfl, trivial⟩ ⟨Chg.refl _ _, (by omega), (by omega), (by assumption), (by exact allEnd (by assumption) (by omega)), (by rfl)⟩ ?_
 rintro k cq ah ⟨Z, bP, bQ, bR, bS, bT⟩ al
 have aB : Mv [J] [J] au ah := Mv.inl Z all_nil (all_cons (.inl (.head _)) all_nil)
 replace ⟨h1, h2, h3, h4, E, C⟩ := (sp aB Z).g6 h1 h2 h3 h4 E C
 clear aB
 refine .s <| .s <| .g <| .r 2 <| .bp ((k : Int) ≤ (s.idx.names.length : Int)) (fun aU => ?_) (fun aU => .d <| .cf <| .x 4 rfl <| .s <| .g <| .r 1 <| .d <| .rt Tryz.func26 Tryz.results26 (.bool true) ⟨(congrArg Value.bool (by symm; exact storeOk_5 (by omega) (by omega) (by assumption) (by assumption) (cntEnd (by assumption) (by omega)))), C⟩)
 refine .d <| .ct <| .sk <| .s <| .b 5 <| .s <| .g <| .ln E <| .r 1 <| .cl (c_impl_Store_rows s (k : Int) h1.ta h2.ta h3.ta h4.ta (StoK.pt p0 (by assumption)) (StoK.rw (by assumption)) (by have := p0.np; omega) (by have := p0.nm2; omega) (w := ah) (F := all)) ?_
 rintro cr cu ⟨⟨cv, cw, rfl, aC⟩, aD⟩
 have aE := al1 E.lt
 have aV : Gb w.heap.size ah.heap.size := C.size
 replace ⟨C, Z⟩ := (se [] aD).g2 C Z
 clear aD
 have aC := aC.fr aE aV
 have bU := aC.max
 clear aE
 exact .r 1 <| .bp ((((rowsOf s (k : Int)).length) : Int) > 24) (fun aW => .d <| .ct <| .s <| .g <| .r 1 <| .d <| .rt Tryz.func26 Tryz.results26 (.bool false) ⟨(congrArg Value.bool (by symm; first | exact storeOk_1 (by omega) | exact storeOk_2 (allNo (by assumption) (by assumption) (by first | exact partIn_1 (by assumption) | exact partIn_2 (by assumption) | exact partIn_3 (by assumption) (by assumption) (by assumption))) | exact storeOk_3 (allNo (by assumption) (by assumption) (by simp [memOk, *])) | exact storeOk_4 (cntNo (by assumption) (by omega) (by omega) (by omega)))), C⟩) fun aW => .d <| .cf <| .sk <| .ib 5 <| .g <| .r 1 <| RG.int ((k : Int) + 1) (by kernel_rfl) (by have := p0.nm.len; omega) <| .r 1 <| .d <| al (k + 1) _ _ ⟨by kernel_rfl, by kernel_rfl, by kernel_rfl, trivial⟩ ⟨Z, (by omega), (by omega), (by assumption), (by assumption), (by exact cntStep (by assumption) (by omega) (by omega) (by omega))⟩ (by first | omega | (simp only []; omega))
theorem c_impl_StoreAdd (s : Sto) (n : List Tag) (r : Row) {w : World} {F : Nat → Prop} {a1 : Option Addr} {n1 c1 : Nat} (h1 : RepS w F a1 n1 c1 s.idx.names) {a2 : Option Addr} {n2 c2 : Nat} (h2 : RepS w F a2 n2 c2 s.idx.posts) {a3 : Option Addr} {n3 c3 : Nat} (h3 : RepS w F a3 n3 c3 s.parts) {a4 : Option Addr} {n4 c4 : Nat} (h4 : RepS w F a4 n4 c4 s.mem) {a5 : Option Addr} {n5 c5 : Nat} (h5 : RepS w F a5 n5 c5 n) (p0 : SD s) (p1 : NmD n) : Calls Tryz.prog 17 [.agg #[.slice a1 n1 c1, .slice a2 n2 c2, .slice a3 n3 c3, .slice a4 n4 c4], .slice a5 n5 c5, .agg #[.int .i64 r.t, .int .i64 r.v]].toArray w (rets fun rv w' => (∃ v0, rv = .tuple #[v0, .bool ((addP s n r).2)] ∧ VS (fo F w.heap.size) w' ((addP s n r).1 : Sto) v0) ∧ Ext w w') := by
 refine goT Tryz.func17 ?_
 obtain ⟨rfl, ej, h1⟩ := h1.tp
 obtain ⟨rfl, ek, h2⟩ := h2.tp
 obtain ⟨rfl, em, h3⟩ := h3.tp
 obtain ⟨rfl, en, h4⟩ := h4.tp
 obtain ⟨rfl, eo, h5⟩ := h5.tp
 refine .s <| .g <| .np 30 [.slice a1 s.idx.names.length c1, .slice a2 s.idx.posts.length c2, .slice a3 s.parts.length c3, .slice a4 s.mem.length c4] fun aa eU bJ bu E cT => ?_
 replace ⟨h1, h2, h3, h4, h5⟩ := (sn [] bu bJ).g5 h1 h2 h3 h4 h5
 have C := bu
 clear bu cT bJ
 refine .np 33 [vI r.t, vI r.v] fun ab eV bK bL J cU => ?_
 replace ⟨h1, h2, h3, h4, h5, E, C⟩ := (sn [aa] bL bK).g7 h1 h2 h3 h4 h5 E C
 clear bL cU bK
 refine .np 30 [.slice none 0 0, .slice none 0 0, .slice none 0 0, .slice none 0 0] fun ac dz aI bM O cV => ?_
 have ep := nb_new aI E.lt
 have es := nb_new aI J.lt
 have et := C.cn aI
 replace ⟨h1, h2, h3, h4, h5, E, J, C⟩ := (sn [ab, aa] bM aI).g8 h1 h2 h3 h4 h5 E J C
 clear bM cV aI
 refine .r 1 <| .d <| .s <| .s <| .g <| .ln E <| .cl (c_impl_StoreOk s h1.ta h2.ta h3.ta h4.ta p0 (w := dz) (F := all)) ?_
 rintro eW dA ⟨rfl, bN⟩
 replace ⟨h1, h2, h3, h4, h5, E, J, O, C⟩ := (se [ac, ab, aa] bN).g9 h1 h2 h3 h4 h5 E J O C
 clear bN
 cases ew : (storeOk s)
 · refine .r 6 <| .d <| .ct <| .s <| .g <| .r 1 <| .sc [.slice none 0 0, .slice none 0 0, .slice none 0 0, .slice none 0 0] O fun eX bO cW cX => ?_
   replace ⟨h1, h2, h3, h4, h5, E, J, C⟩ := (so [ac, ab, aa] bO).g8 h1 h2 h3 h4 h5 E J C
   clear bO cX
   exact .r 1 <| .d <| .r2 Tryz.func17 Tryz.results17 (.bx cW) (.t (.bool false)) ⟨⟨_, (tup2 rfl (congrArg Value.bool (by first | exact (congrArg Prod.fst (addP_no (.inl (by assumption)))).symm | exact (congrArg Prod.snd (addP_no (.inl (by assumption)))).symm | exact (congrArg Prod.fst (addP_no (.inr (by assumption)))).symm | exact (congrArg Prod.snd (addP_no (.inr (by assumption)))).symm | exact (congrArg Prod.fst (addQ_1 p0 (by assumption) (by assumption) (by assumption))).symm | exact (congrArg Prod.snd (addQ_1 p0 (by assumption) (by assumption) (by assumption))).symm | exact (congrArg Prod.fst (addQ_2 p0 (by assumption) (by assumption) (by assumption))).symm | exact (congrArg Prod.snd (addQ_2 p0 (by assumption) (by assumption) (by assumption))).symm | exact (congrArg Prod.fst (addQ_3 p0 (by assumption) (by assumption) (by assumption))).symm | exact (congrArg Prod.snd (addQ_3 p0 (by assumption) (by assumption) (by assumption))).symm | exact (congrArg Prod.fst (addQ_4 p0 (by assumption) (by assumption) (by assumption) (by assumption) (by assumption) (by assumption))).symm | exact (congrArg Prod.snd (addQ_4 p0 (by assumption) (by assumption) (by assumption) (by assumption) (by assumption) (by assumption))).symm | exact (congrArg Prod.fst (addQ_5 p0 (by assumption) (by assumption) (by assumption) (by assumption) (by assumption) (by assumption))).symm | exact (congrArg Prod.snd (addQ_5 p0 (by assumption) (by assumption) (by assumption) (by assumption) (by assumption) (by assumption))).symm))), (VS.of (y := (⟨(⟨([] : List (List Tag)), ([] : List Pst)⟩ : Idx), ([] : List Prt), ([] : List Smp)⟩ : Sto)) ⟨_, rfl, ⟨_, _, _, _, _, _, _, _, _, _, _, _, rfl, (RepS.nil' _ _ none 0 (by decide)), (RepS.nil' _ _ none 0 (by decide)), (RepS.nil' _ _ none 0 (by decide)), (RepS.nil' _ _ none 0 (by decide))⟩⟩ (by first | exact (congrArg Prod.fst (addP_no (.inl (by assumption)))).symm | exact (congrArg Prod.snd (addP_no (.inl (by assumption)))).symm | exact (congrArg Prod.fst (addP_no (.inr (by assumption)))).symm | exact (congrArg Prod.snd (addP_no (.inr (by assumption)))).symm | exact (congrArg Prod.fst (addQ_1 p0 (by assumption) (by assumption) (by assumption))).symm | exact (congrArg Prod.snd (addQ_1 p0 (by assumption) (by assumption) (by assumption))).symm | exact (congrArg Prod.fst (addQ_2 p0 (by assumption) (by assumption) (by assumption))).symm | exact (congrArg Prod.snd (addQ_2 p0 (by assumption) (by assumption) (by assumption))).symm | exact (congrArg Prod.fst (addQ_3 p0 (by assumption) (by assumption) (by assumption))).symm | exact (congrArg Prod.snd (addQ_3 p0 (by assumption) (by assumption) (by assumption))).symm | exact (congrArg Prod.fst (addQ_4 p0 (by assumption) (by assumption) (by assumption) (by assumption) (by assumption) (by assumption))).symm | exact (congrArg Prod.snd (addQ_4 p0 (by assumption) (by assumption) (by assumption) (by assumption) (by assumption) (by assumption))).symm | exact (congrArg Prod.fst (addQ_5 p0 (by assumption) (by assumption) (by assumption) (by assumption) (by assumption) (by assumption))).symm | exact (congrArg Prod.snd (addQ_5 p0 (by assumption) (by assumption) (by assumption) (by assumption) (by assumption) (by assumption))).symm))⟩, C⟩
 refine .r 3 <| .cl (c_impl_NameOk n h5.ta (w := dA) (F := all)) ?_
 rintro eY cY ⟨rfl, bP⟩
 replace ⟨h1, h2, h3, h4, h5, E, J, O, C⟩ := (se [ac, ab, aa] bP).g9 h1 h2 h3 h4 h5 E J O C
 clear bP
 cases ex : (nameOk n)
 · refine .r 2 <| .d <| .ct <| .s <| .g <| .r 1 <| .sc [.slice none 0 0, .slice none 0 0, .slice none 0 0, .slice none 0 0] O fun eZ bQ cZ c7 => ?_
   replace ⟨h1, h2, h3, h4, h5, E, J, C⟩ := (so [ac, ab, aa] bQ).g8 h1 h2 h3 h4 h5 E J C
   clear bQ c7
   exact .r 1 <| .d <| .r2 Tryz.func17 Tryz.results17 (.bx cZ) (.t (.bool false)) ⟨⟨_, (tup2 rfl (congrArg Value.bool (by first | exact (congrArg Prod.fst (addP_no (.inl (by assumption)))).symm | exact (congrArg Prod.snd (addP_no (.inl (by assumption)))).symm | exact (congrArg Prod.fst (addP_no (.inr (by assumption)))).symm | exact (congrArg Prod.snd (addP_no (.inr (by assumption)))).symm | exact (congrArg Prod.fst (addQ_1 p0 (by assumption) (by assumption) (by assumption))).symm | exact (congrArg Prod.snd (addQ_1 p0 (by assumption) (by assumption) (by assumption))).symm | exact (congrArg Prod.fst (addQ_2 p0 (by assumption) (by assumption) (by assumption))).symm | exact (congrArg Prod.snd (addQ_2 p0 (by assumption) (by assumption) (by assumption))).symm | exact (congrArg Prod.fst (addQ_3 p0 (by assumption) (by assumption) (by assumption))).symm | exact (congrArg Prod.snd (addQ_3 p0 (by assumption) (by assumption) (by assumption))).symm | exact (congrArg Prod.fst (addQ_4 p0 (by assumption) (by assumption) (by assumption) (by assumption) (by assumption) (by assumption))).symm | exact (congrArg Prod.snd (addQ_4 p0 (by assumption) (by assumption) (by assumption) (by assumption) (by assumption) (by assumption))).symm | exact (congrArg Prod.fst (addQ_5 p0 (by assumption) (by assumption) (by assumption) (by assumption) (by assumption) (by assumption))).symm | exact (congrArg Prod.snd (addQ_5 p0 (by assumption) (by assumption) (by assumption) (by assumption) (by assumption) (by assumption))).symm))), (VS.of (y := (⟨(⟨([] : List (List Tag)), ([] : List Pst)⟩ : Idx), ([] : List Prt), ([] : List Smp)⟩ : Sto)) ⟨_, rfl, ⟨_, _, _, _, _, _, _, _, _, _, _, _, rfl, (RepS.nil' _ _ none 0 (by decide)), (RepS.nil' _ _ none 0 (by decide)), (RepS.nil' _ _ none 0 (by decide)), (RepS.nil' _ _ none 0 (by decide))⟩⟩ (by first | exact (congrArg Prod.fst (addP_no (.inl (by assumption)))).symm | exact (congrArg Prod.snd (addP_no (.inl (by assumption)))).symm | exact (congrArg Prod.fst (addP_no (.inr (by assumption)))).symm | exact (congrArg Prod.snd (addP_no (.inr (by assumption)))).symm | exact (congrArg Prod.fst (addQ_1 p0 (by assumption) (by assumption) (by assumption))).symm | exact (congrArg Prod.snd (addQ_1 p0 (by assumption) (by assumption) (by assumption))).symm | exact (congrArg Prod.fst (addQ_2 p0 (by assumption) (by assumption) (by assumption))).symm | exact (congrArg Prod.snd (addQ_2 p0 (by assumption) (by assumption) (by assumption))).symm | exact (congrArg Prod.fst (addQ_3 p0 (by assumption) (by assumption) (by assumption))).symm | exact (congrArg Prod.snd (addQ_3 p0 (by assumption) (by assumption) (by assumption))).symm | exact (congrArg Prod.fst (addQ_4 p0 (by assumption) (by assumption) (by assumption) (by assumption) (by assumption) (by assumption))).symm | exact (congrArg Prod.snd (addQ_4 p0 (by assumption) (by assumption) (by assumption) (by assumption) (by assumption) (by assumption))).symm | exact (congrArg Prod.fst (addQ_5 p0 (by assumption) (by assumption) (by assumption) (by assumption) (by assumption) (by assumption))).symm | exact (congrArg Prod.snd (addQ_5 p0 (by assumption) (by assumption) (by assumption) (by assumption) (by assumption) (by assumption))).symm))⟩, C⟩
 refine .r 2 <| .d <| .cf <| .sk <| .s <| .g <| .ln E <| .cl (c_impl_cloneStore s h1.ta h2.ta h3.ta h4.ta p0.nm p0.nd p0.sz (w := cY) (F := all)) ?_
 rintro e0 bE ⟨⟨bF, e7, bG, bH, e8, bI, bq, e9, br, ah, aQ, bv, rfl, al, am, af, ae, aF⟩, bR⟩
 have aJ := al3 O.lt J.lt E.lt
 have bm : Gb w.heap.size cY.heap.size := C.size
 have c8 := nb_ge aF E.lt
 have c9 := nb_ge aF J.lt
 have da := nb_ge aF O.lt
 have bn := gb_ge aF C.size
 have ey : Cov nil w ah := cov_ge aF C.size
 replace ⟨h1, h2, h3, h4, h5, E, J, O, C⟩ := (sz [ac, ab, aa] bR aF).g9 h1 h2 h3 h4 h5 E J O C
 clear bR aF
 replace al : RepS bE (nin (ge w.heap.size) [ah, ac, ab, aa]) _ _ _ _ := RepS.takeM (s0 := w.heap.size) (M := [ac, ab, aa]) al aJ bm
 replace al := al.base (G' := fo F w.heap.size) (fun _ _ h => .inr h)
 have dB := al.max
 replace am : RepS bE (nin (ge w.heap.size) [ah, ac, ab, aa]) _ _ _ _ := RepS.takeM (s0 := w.heap.size) (M := [ac, ab, aa]) am aJ bm
 replace am := am.base (G' := fo F w.heap.size) (fun _ _ h => .inr h)
 have dC := am.max
 replace af : RepS bE (nin (ge w.heap.size) [ah, ac, ab, aa]) _ _ _ _ := RepS.takeM (s0 := w.heap.size) (M := [ac, ab, aa]) af aJ bm
 replace af := af.base (G' := fo F w.heap.size) (fun _ _ h => .inr h)
 have dD := af.max
 replace ae : Own bE ah 51 (nin (ge w.heap.size) [ah, ac, ab, aa]) _ _ _ := Own.takeM (s0 := w.heap.size) (M := [ac, ab, aa]) ae aJ bm
 replace ae := ae.base (G' := fo F w.heap.size) (fun _ _ h => .inr h)
 have dE := ae.max
 have dF := ae.len
 clear aJ
 have bX := al.len
 subst bX
 have bY := am.len
 subst bY
 have bZ := af.len
 subst bZ
 refine .np 30 [.slice none 0 0, .slice none 0 0, .slice none 0 0, .slice none 0 0] fun V ez ay aR b0 b6 => ?_
 have dG := nb_new ay E.lt
 have dH := nb_new ay J.lt
 have dI := nb_new ay O.lt
 have b7 := nb_new ay ae.lt
 have dJ := C.cn ay
 replace ⟨h1, h2, h3, h4, h5, E, J, O, al, am, af, ae⟩ := (sn [ah, ac, ab, aa] aR ay).g12 h1 h2 h3 h4 h5 E J O al am af ae
 replace C := (sn [ah, ac, ab, aa] aR ay).g1 C
 clear aR b6 ay
 refine .sc [.slice bF (((((copyS s)).idx).names).length) bG, .slice bH (((((copyS s)).idx).posts).length) bI, .slice bq ((((copyS s)).parts).length) br, vS ah aQ bv] b0 fun bS aS ai b8 => ?_
 replace ⟨h1, h2, h3, h4, h5, E, J, O, al, am, af, ae⟩ := (so [V, ah, ac, ab, aa] aS).g12 h1 h2 h3 h4 h5 E J O al am af ae
 replace C := (so [V, ah, ac, ab, aa] aS).g1 C
 clear aS b8
 refine .d <| .s <| .g <| .r 1 <| .ln E <| .r 1 <| .cl (c_impl_IndexAdd s.idx n h1 h2 h5 p0.ix p0.nd p1 (w := bS) (F := nin (fo F w.heap.size) [V, ah, ac, ab, aa])) ?_
 rintro eA eB ⟨⟨eC, rfl, ⟨_, rfl, ⟨aK, eD, aL, aM, eE, aN, rfl, W, Z⟩⟩⟩, aT⟩
 have aU := al5 ai.lt ae.lt O.lt J.lt E.lt
 have bw : Gb w.heap.size bS.heap.size := C.size
 replace ⟨h1, h2, h3, h4, E, J, O, al, am, af, ae, ai⟩ := (se [V, ah, ac, ab, aa] aT).g12 h1 h2 h3 h4 E J O al am af ae ai
 replace C := (se [V, ah, ac, ab, aa] aT).g1 C
 clear aT
 replace W := RepS.mixed' (M := [V, ah, ac, ab, aa]) W aU bw
 have dK := W.max
 replace Z := RepS.mixed' (M := [V, ah, ac, ab, aa]) Z aU bw
 have dL := Z.max
 clear aU
 have b9 := W.len
 subst b9
 have cd := Z.len
 subst cd
 refine .r 3 ?_
 cases dM : (addI s.idx n).2.2
 · refine .r 1 <| .np 26 [.slice none 0 0, .slice none 0 0] fun aO eF au aV ce cg => ?_
   have dN := nb_new au E.lt
   have dO := nb_new au J.lt
   have dP := nb_new au O.lt
   have dQ := nb_new au ae.lt
   have dR := nb_new au ai.lt
   have dS := C.cn au
   replace ⟨h1, h2, h3, h4, E, J, O, al, am, af, ae, ai⟩ := (sn [V, ah, ac, ab, aa] aV au).g12 h1 h2 h3 h4 E J O al am af ae ai
   replace ⟨W, Z, C⟩ := (sn [V, ah, ac, ab, aa] aV au).g3 W Z C
   clear aV cg au
   refine .sc [.slice aK ((((addI s.idx n).1).names).length) aL, .slice aM ((((addI s.idx n).1).posts).length) aN] ce fun eG aW dT ci => ?_
   replace ⟨h1, h2, h3, h4, E, J, O, al, am, af, ae, ai⟩ := (so [aO, V, ah, ac, ab, aa] aW).g12 h1 h2 h3 h4 E J O al am af ae ai
   replace ⟨W, Z, C⟩ := (so [aO, V, ah, ac, ab, aa] aW).g3 W Z C
   clear aW ci
   refine .r 2 <| .d <| .s <| .s <| .g <| .r 13 <| .d <| .ct <| .s <| .g <| .ln ai <| .sc [.slice bF (((((copyS s)).idx).names).length) bG, .slice bH (((((copyS s)).idx).posts).length) bI, .slice bq ((((copyS s)).parts).length) br, vS ah aQ bv] O fun db aX cj ck => ?_
   replace ⟨h1, h2, h3, h4, E, J, al, am, af, ae, ai, W⟩ := (so [aO, V, ah, ac, ab, aa] aX).g12 h1 h2 h3 h4 E J al am af ae ai W
   replace ⟨Z, C⟩ := (so [aO, V, ah, ac, ab, aa] aX).g2 Z C
   clear aX ck
   refine .r 1 <| .d ?_
   have dd := ae.sl (.inr bn)
   replace ⟨h1, h2, h3, h4, al, am, af, W, Z⟩ := (sd db [aO, V, ah, ac, ab, aa] ah).g9 h1 h2 h3 h4 al am af W Z
   exact .r2 Tryz.func17 Tryz.results17 (.bx cj) (.t (.bool false)) ⟨⟨_, (tup2 rfl (congrArg Value.bool (by first | exact (congrArg Prod.fst (addP_no (.inl (by assumption)))).symm | exact (congrArg Prod.snd (addP_no (.inl (by assumption)))).symm | exact (congrArg Prod.fst (addP_no (.inr (by assumption)))).symm | exact (congrArg Prod.snd (addP_no (.inr (by assumption)))).symm | exact (congrArg Prod.fst (addQ_1 p0 (by assumption) (by assumption) (by assumption))).symm | exact (congrArg Prod.snd (addQ_1 p0 (by assumption) (by assumption) (by assumption))).symm | exact (congrArg Prod.fst (addQ_2 p0 (by assumption) (by assumption) (by assumption))).symm | exact (congrArg Prod.snd (addQ_2 p0 (by assumption) (by assumption) (by assumption))).symm | exact (congrArg Prod.fst (addQ_3 p0 (by assumption) (by assumption) (by assumption))).symm | exact (congrArg Prod.snd (addQ_3 p0 (by assumption) (by assumption) (by assumption))).symm | exact (congrArg Prod.fst (addQ_4 p0 (by assumption) (by assumption) (by assumption) (by assumption) (by assumption) (by assumption))).symm | exact (congrArg Prod.snd (addQ_4 p0 (by assumption) (by assumption) (by assumption) (by assumption) (by assumption) (by assumption))).symm | exact (congrArg Prod.fst (addQ_5 p0 (by assumption) (by assumption) (by assumption) (by assumption) (by assumption) (by assumption))).symm | exact (congrArg Prod.snd (addQ_5 p0 (by assumption) (by assumption) (by assumption) (by assumption) (by assumption) (by assumption))).symm))), (VS.of (y := (⟨(⟨(((copyS s)).idx).names, (((copyS s)).idx).posts⟩ : Idx), ((copyS s)).parts, ((copyS s)).mem⟩ : Sto)) ⟨_, rfl, ⟨_, _, _, _, _, _, _, _, _, _, _, _, rfl, al.w1, am.w1, af.w1, dd.w1⟩⟩ (by first | exact (congrArg Prod.fst (addP_no (.inl (by assumption)))).symm | exact (congrArg Prod.snd (addP_no (.inl (by assumption)))).symm | exact (congrArg Prod.fst (addP_no (.inr (by assumption)))).symm | exact (congrArg Prod.snd (addP_no (.inr (by assumption)))).symm | exact (congrArg Prod.fst (addQ_1 p0 (by assumption) (by assumption) (by assumption))).symm | exact (congrArg Prod.snd (addQ_1 p0 (by assumption) (by assumption) (by assumption))).symm | exact (congrArg Prod.fst (addQ_2 p0 (by assumption) (by assumption) (by assumption))).symm | exact (congrArg Prod.snd (addQ_2 p0 (by assumption) (by assumption) (by assumption))).symm | exact (congrArg Prod.fst (addQ_3 p0 (by assumption) (by assumption) (by assumption))).symm | exact (congrArg Prod.snd (addQ_3 p0 (by assumption) (by assumption) (by assumption))).symm | exact (congrArg Prod.fst (addQ_4 p0 (by assumption) (by assumption) (by assumption) (by assumption) (by assumption) (by assumption))).symm | exact (congrArg Prod.snd (addQ_4 p0 (by assumption) (by assumption) (by assumption) (by assumption) (by assumption) (by assumption))).symm | exact (congrArg Prod.fst (addQ_5 p0 (by assumption) (by assumption) (by assumption) (by assumption) (by assumption) (by assumption))).symm | exact (congrArg Prod.snd (addQ_5 p0 (by assumption) (by assumption) (by assumption) (by assumption) (by assumption) (by assumption))).symm))⟩, C⟩
 refine .r 1 <| .np 26 [.slice none 0 0, .slice none 0 0] fun ag eH av aY cm co => ?_
 have dU := nb_new av E.lt
 have dV := nb_new av J.lt
 have dW := nb_new av O.lt
 have cp := nb_new av ae.lt
 have dX := nb_new av ai.lt
 have dY := C.cn av
 replace ⟨h1, h2, h3, h4, E, J, O, al, am, af, ae, ai⟩ := (sn [V, ah, ac, ab, aa] aY av).g12 h1 h2 h3 h4 E J O al am af ae ai
 replace ⟨W, Z, C⟩ := (sn [V, ah, ac, ab, aa] aY av).g3 W Z C
 clear aY co av
 refine .sc [.slice aK ((((addI s.idx n).1).names).length) aL, .slice aM ((((addI s.idx n).1).posts).length) aN] cm fun de aZ aj cq => ?_
 replace ⟨h1, h2, h3, h4, E, J, O, al, am, af, ae, ai⟩ := (so [ag, V, ah, ac, ab, aa] aZ).g12 h1 h2 h3 h4 E J O al am af ae ai
 replace ⟨W, Z, C⟩ := (so [ag, V, ah, ac, ab, aa] aZ).g3 W Z C
 clear aZ cq
 refine .r 2 <| .d <| .s <| .s <| .g <| .r 3 <| .ln J <| .cl (c_impl_rowOk r (w := de) (F := all)) ?_
 rintro eI eJ ⟨rfl, ba⟩
 replace ⟨h1, h2, h3, h4, E, J, O, al, am, af, ae, ai⟩ := (se [ag, V, ah, ac, ab, aa] ba).g12 h1 h2 h3 h4 E J O al am af ae ai
 replace ⟨W, Z, aj, C⟩ := (se [ag, V, ah, ac, ab, aa] ba).g4 W Z aj C
 clear ba
 cases dZ : (rowOk r)
 · refine .r 8 <| .d <| .ct <| .s <| .g <| .ln ai <| .sc [.slice bF (((((copyS s)).idx).names).length) bG, .slice bH (((((copyS s)).idx).posts).length) bI, .slice bq ((((copyS s)).parts).length) br, vS ah aQ bv] O fun df bc cr cu => ?_
   replace ⟨h1, h2, h3, h4, E, J, al, am, af, ae, ai, W⟩ := (so [ag, V, ah, ac, ab, aa] bc).g12 h1 h2 h3 h4 E J al am af ae ai W
   replace ⟨Z, aj, C⟩ := (so [ag, V, ah, ac, ab, aa] bc).g3 Z aj C
   clear bc cu
   refine .r 1 <| .d ?_
   have dg := ae.sl (.inr bn)
   replace ⟨h1, h2, h3, h4, al, am, af, W, Z⟩ := (sd df [ag, V, ah, ac, ab, aa] ah).g9 h1 h2 h3 h4 al am af W Z
   exact .r2 Tryz.func17 Tryz.results17 (.bx cr) (.t (.bool false)) ⟨⟨_, (tup2 rfl (congrArg Value.bool (by first | exact (congrArg Prod.fst (addP_no (.inl (by assumption)))).symm | exact (congrArg Prod.snd (addP_no (.inl (by assumption)))).symm | exact (congrArg Prod.fst (addP_no (.inr (by assumption)))).symm | exact (congrArg Prod.snd (addP_no (.inr (by assumption)))).symm | exact (congrArg Prod.fst (addQ_1 p0 (by assumption) (by assumption) (by assumption))).symm | exact (congrArg Prod.snd (addQ_1 p0 (by assumption) (by assumption) (by assumption))).symm | exact (congrArg Prod.fst (addQ_2 p0 (by assumption) (by assumption) (by assumption))).symm | exact (congrArg Prod.snd (addQ_2 p0 (by assumption) (by assumption) (by assumption))).symm | exact (congrArg Prod.fst (addQ_3 p0 (by assumption) (by assumption) (by assumption))).symm | exact (congrArg Prod.snd (addQ_3 p0 (by assumption) (by assumption) (by assumption))).symm | exact (congrArg Prod.fst (addQ_4 p0 (by assumption) (by assumption) (by assumption) (by assumption) (by assumption) (by assumption))).symm | exact (congrArg Prod.snd (addQ_4 p0 (by assumption) (by assumption) (by assumption) (by assumption) (by assumption) (by assumption))).symm | exact (congrArg Prod.fst (addQ_5 p0 (by assumption) (by assumption) (by assumption) (by assumption) (by assumption) (by assumption))).symm | exact (congrArg Prod.snd (addQ_5 p0 (by assumption) (by assumption) (by assumption) (by assumption) (by assumption) (by assumption))).symm))), (VS.of (y := (⟨(⟨(((copyS s)).idx).names, (((copyS s)).idx).posts⟩ : Idx), ((copyS s)).parts, ((copyS s)).mem⟩ : Sto)) ⟨_, rfl, ⟨_, _, _, _, _, _, _, _, _, _, _, _, rfl, al.w1, am.w1, af.w1, dg.w1⟩⟩ (by first | exact (congrArg Prod.fst (addP_no (.inl (by assumption)))).symm | exact (congrArg Prod.snd (addP_no (.inl (by assumption)))).symm | exact (congrArg Prod.fst (addP_no (.inr (by assumption)))).symm | exact (congrArg Prod.snd (addP_no (.inr (by assumption)))).symm | exact (congrArg Prod.fst (addQ_1 p0 (by assumption) (by assumption) (by assumption))).symm | exact (congrArg Prod.snd (addQ_1 p0 (by assumption) (by assumption) (by assumption))).symm | exact (congrArg Prod.fst (addQ_2 p0 (by assumption) (by assumption) (by assumption))).symm | exact (congrArg Prod.snd (addQ_2 p0 (by assumption) (by assumption) (by assumption))).symm | exact (congrArg Prod.fst (addQ_3 p0 (by assumption) (by assumption) (by assumption))).symm | exact (congrArg Prod.snd (addQ_3 p0 (by assumption) (by assumption) (by assumption))).symm | exact (congrArg Prod.fst (addQ_4 p0 (by assumption) (by assumption) (by assumption) (by assumption) (by assumption) (by assumption))).symm | exact (congrArg Prod.snd (addQ_4 p0 (by assumption) (by assumption) (by assumption) (by assumption) (by assumption) (by assumption))).symm | exact (congrArg Prod.fst (addQ_5 p0 (by assumption) (by assumption) (by assumption) (by assumption) (by assumption) (by assumption))).symm | exact (congrArg Prod.snd (addQ_5 p0 (by assumption) (by assumption) (by assumption) (by assumption) (by assumption) (by assumption))).symm))⟩, C⟩
 refine .r 4 <| .lb E <| .r 1 <| .eq (s.mem.length : Int) 20 (fun cv => ?_) (fun cv => ?_)
 · refine .r 1 <| .d <| .ct <| .s <| .g <| .ln ai <| .sc [.slice bF (((((copyS s)).idx).names).length) bG, .slice bH (((((copyS s)).idx).posts).length) bI, .slice bq ((((copyS s)).parts).length) br, vS ah aQ bv] O fun dh bd cw cx => ?_
   replace ⟨h1, h2, h3, h4, E, J, al, am, af, ae, ai, W⟩ := (so [ag, V, ah, ac, ab, aa] bd).g12 h1 h2 h3 h4 E J al am af ae ai W
   replace ⟨Z, aj, C⟩ := (so [ag, V, ah, ac, ab, aa] bd).g3 Z aj C
   clear bd cx
   refine .r 1 <| .d ?_
   have di := ae.sl (.inr bn)
   replace ⟨h1, h2, h3, h4, al, am, af, W, Z⟩ := (sd dh [ag, V, ah, ac, ab, aa] ah).g9 h1 h2 h3 h4 al am af W Z
   exact .r2 Tryz.func17 Tryz.results17 (.bx cw) (.t (.bool false)) ⟨⟨_, (tup2 rfl (congrArg Value.bool (by first | exact (congrArg Prod.fst (addP_no (.inl (by assumption)))).symm | exact (congrArg Prod.snd (addP_no (.inl (by assumption)))).symm | exact (congrArg Prod.fst (addP_no (.inr (by assumption)))).symm | exact (congrArg Prod.snd (addP_no (.inr (by assumption)))).symm | exact (congrArg Prod.fst (addQ_1 p0 (by assumption) (by assumption) (by assumption))).symm | exact (congrArg Prod.snd (addQ_1 p0 (by assumption) (by assumption) (by assumption))).symm | exact (congrArg Prod.fst (addQ_2 p0 (by assumption) (by assumption) (by assumption))).symm | exact (congrArg Prod.snd (addQ_2 p0 (by assumption) (by assumption) (by assumption))).symm | exact (congrArg Prod.fst (addQ_3 p0 (by assumption) (by assumption) (by assumption))).symm | exact (congrArg Prod.snd (addQ_3 p0 (by assumption) (by assumption) (by assumption))).symm | exact (congrArg Prod.fst (addQ_4 p0 (by assumption) (by assumption) (by assumption) (by assumption) (by assumption) (by assumption))).symm | exact (congrArg Prod.snd (addQ_4 p0 (by assumption) (by assumption) (by assumption) (by assumption) (by assumption) (by assumption))).symm | exact (congrArg Prod.fst (addQ_5 p0 (by assumption) (by assumption) (by assumption) (by assumption) (by assumption) (by assumption))).symm | exact (congrArg Prod.snd (addQ_5 p0 (by assumption) (by assumption) (by assumption) (by assumption) (by assumption) (by assumption))).symm))), (VS.of (y := (⟨(⟨(((copyS s)).idx).names, (((copyS s)).idx).posts⟩ : Idx), ((copyS s)).parts, ((copyS s)).mem⟩ : Sto)) ⟨_, rfl, ⟨_, _, _, _, _, _, _, _, _, _, _, _, rfl, al.w1, am.w1, af.w1, di.w1⟩⟩ (by first | exact (congrArg Prod.fst (addP_no (.inl (by assumption)))).symm | exact (congrArg Prod.snd (addP_no (.inl (by assumption)))).symm | exact (congrArg Prod.fst (addP_no (.inr (by assumption)))).symm | exact (congrArg Prod.snd (addP_no (.inr (by assumption)))).symm | exact (congrArg Prod.fst (addQ_1 p0 (by assumption) (by assumption) (by assumption))).symm | exact (congrArg Prod.snd (addQ_1 p0 (by assumption) (by assumption) (by assumption))).symm | exact (congrArg Prod.fst (addQ_2 p0 (by assumption) (by assumption) (by assumption))).symm | exact (congrArg Prod.snd (addQ_2 p0 (by assumption) (by assumption) (by assumption))).symm | exact (congrArg Prod.fst (addQ_3 p0 (by assumption) (by assumption) (by assumption))).symm | exact (congrArg Prod.snd (addQ_3 p0 (by assumption) (by assumption) (by assumption))).symm | exact (congrArg Prod.fst (addQ_4 p0 (by assumption) (by assumption) (by assumption) (by assumption) (by assumption) (by assumption))).symm | exact (congrArg Prod.snd (addQ_4 p0 (by assumption) (by assumption) (by assumption) (by assumption) (by assumption) (by assumption))).symm | exact (congrArg Prod.fst (addQ_5 p0 (by assumption) (by assumption) (by assumption) (by assumption) (by assumption) (by assumption))).symm | exact (congrArg Prod.snd (addQ_5 p0 (by assumption) (by assumption) (by assumption) (by assumption) (by assumption) (by assumption))).symm))⟩, C⟩
 refine .r 1 <| .d <| .cf <| .sk <| .s <| .g <| .ln aj <| .r 1 <| .sb 0 (.agg #[.slice aK ((((addI s.idx n).1).names).length) aL, .slice aM ((((addI s.idx n).1).posts).length) aN]) [.slice aK ((((addI s.idx n).1).names).length) aL, .slice aM ((((addI s.idx n).1).posts).length) aN, .slice bq ((((copyS s)).parts).length) br, vS ah aQ bv] ai fun eK bg az cy => ?_
 replace ⟨h1, h2, h3, h4, E, J, O, af, ae, W, Z, aj⟩ := (so [ag, V, ah, ac, ab, aa] bg).g12 h1 h2 h3 h4 E J O af ae W Z aj
 replace C := (so [ag, V, ah, ac, ab, aa] bg).g1 C
 clear bg cy
 refine .d <| .s <| .g <| .r 1 <| .lb az <| .r 1 <| .ln J <| .r 1 <| .ns 1 51 [vI ((addI s.idx n).2.1), vI r.t, vI r.v] fun bT eL aA bh cz cA => ?_
 have cB := nb_new aA E.lt
 have cC := nb_new aA J.lt
 have cD := nb_new aA O.lt
 have bz := nb_new aA ae.lt
 have cE := nb_new aA az.lt
 have cF := nb_new aA aj.lt
 have cG := gb_new aA C.size
 replace ⟨h1, h2, h3, h4, E, J, O, af, ae, az, W, Z⟩ := (se [ag, V, ah, ac, ab, aa] bh).g12 h1 h2 h3 h4 E J O af ae az W Z
 replace ⟨aj, C⟩ := (se [ag, V, ah, ac, ab, aa] bh).g2 aj C
 clear bh cA aA
 have bt : nin (fo F w.heap.size) [ag, V, ah, ac, ab, aa] bT ∧ bT ≠ ah := hap_mk (.inr cG) (all_cons cF (all_cons cE (all_cons bz (all_cons cD (all_cons cC (all_cons cB all_nil)))))) bz
 refine RG.append1 (T := 28) (ty := 28) (y := (⟨(addI s.idx n).2.1, (⟨r.t, r.v⟩ : Row)⟩ : Smp)) ae cz (by kernel_rfl) (by kernel_rfl) rfl bt (by have q1 := p0.nm2; have q2 : (copyS s).mem.length = s.mem.length := rfl; omega) fun ao bU eM ak aq bi => ?_
 have d3 := nb_or aq c8 E.lt
 have d4 := nb_or aq c9 J.lt
 have d5 := nb_or aq da O.lt
 have d6 := nb_or aq (Nb.symm b7) az.lt
 have d7 := nb_or aq (Nb.symm cp) aj.lt
 have cH := gb_or aq bn C.size
 replace ⟨h1, h2, h3, h4, E, J, O, af, az, W, Z, aj⟩ := (sa [ag, V, ah, ac, ab, aa] bi aq).g12 h1 h2 h3 h4 E J O af az W Z aj
 replace C := (sa [ag, V, ah, ac, ab, aa] bi aq).g1 C
 clear bi
 replace ak := ak.rn ah
 clear aq
 have d8 := ak.len; have d9 := ak.max
 refine .r 1 <| .ss 3 (vS ao (aQ + 1) bU) az fun bV bj ar cI => ?_
 replace ⟨h1, h2, h3, h4, E, J, O, af, ak, W, Z, aj⟩ := (so [ag, V, ao, ac, ab, aa] bj).g12 h1 h2 h3 h4 E J O af ak W Z aj
 replace C := (so [ag, V, ao, ac, ab, aa] bj).g1 C
 clear bj cI
 refine .d <| .s <| .s <| .g <| .ln ar <| .r 1 <| .cl (c_impl_Store_rows (⟨(⟨((addI s.idx n).1).names, ((addI s.idx n).1).posts⟩ : Idx), ((copyS s)).parts, (((copyS s)).mem ++ [(⟨(addI s.idx n).2.1, (⟨r.t, r.v⟩ : Row)⟩ : Smp)])⟩ : Sto) ((addI s.idx n).2.1) W.ta Z.ta af.ta (ak.rep) (by exact (StoK.of p0 (by assumption)).part) (addX_k2 (StoK.of p0 (by assumption)) (by assumption)) (by have q1 := p0.np; exact Nat.le_trans q1 (by omega)) (by have q1 := p0.nm2; simp only [copyS, List.length_append, List.length_cons, List.length_nil]; omega) (w := bV) (F := all)) ?_
 rintro eN bW ⟨⟨eO, eP, rfl, aP⟩, bk⟩
 have bA := al6 aj.lt ar.lt ak.lt O.lt J.lt E.lt
 have cJ : Gb w.heap.size bV.heap.size := C.size
 replace ⟨h1, h2, h3, h4, E, J, O, af, ak, ar, W, Z⟩ := (se [ag, V, ao, ac, ab, aa] bk).g12 h1 h2 h3 h4 E J O af ak ar W Z
 replace ⟨aj, C⟩ := (se [ag, V, ao, ac, ab, aa] bk).g2 aj C
 clear bk
 have aP := aP.fr bA cJ
 replace aP := aP.base (G' := fo F w.heap.size) (fun _ _ h => .inr h)
 have ea := aP.max
 clear bA
 refine .r 1 <| .bp ((((rowsOf (⟨(⟨((addI s.idx n).1).names, ((addI s.idx n).1).posts⟩ : Idx), ((copyS s)).parts, (((copyS s)).mem ++ [(⟨(addI s.idx n).2.1, (⟨r.t, r.v⟩ : Row)⟩ : Smp)])⟩ : Sto) ((addI s.idx n).2.1)).length) : Int) > 24) (fun cK => ?_) (fun cK => ?_)
 · refine .d <| .ct <| .s <| .g <| .ln E <| .cl (c_impl_cloneStore s h1.ta h2.ta h3.ta h4.ta p0.nm p0.nd p0.sz (w := bW) (F := all)) ?_
   rintro eQ bo ⟨⟨dj, eR, dk, dm, eS, dp, dq, eT, dr, aE, dt, du, rfl, aB, aC, aD, aw, ax⟩, bB⟩
   have aG := al6 aj.lt ar.lt ak.lt O.lt J.lt E.lt
   have aH : Gb w.heap.size bW.heap.size := C.size
   have eb := nb_ge ax E.lt
   have ec := nb_ge ax J.lt
   have ed := nb_ge ax O.lt
   have ee := nb_ge ax ak.lt
   have ef := nb_ge ax ar.lt
   have eg := nb_ge ax aj.lt
   have cL := gb_ge ax C.size
   replace ⟨O, af, ak, ar, W, Z, C⟩ := (sz [ag, V, ao, ac, ab, aa] bB ax).g7 O af ak ar W Z C
   clear bB ax
   replace aB : RepS bo (nin (ge w.heap.size) [aE, ag, V, ao, ac, ab, aa]) _ _ _ _ := RepS.takeM (s0 := w.heap.size) (M := [ag, V, ao, ac, ab, aa]) aB aG aH
   replace aB := aB.base (G' := fo F w.heap.size) (fun _ _ h => .inr h)
   replace aC : RepS bo (nin (ge w.heap.size) [aE, ag, V, ao, ac, ab, aa]) _ _ _ _ := RepS.takeM (s0 := w.heap.size) (M := [ag, V, ao, ac, ab, aa]) aC aG aH
   replace aC := aC.base (G' := fo F w.heap.size) (fun _ _ h => .inr h)
   replace aD : RepS bo (nin (ge w.heap.size) [aE, ag, V, ao, ac, ab, aa]) _ _ _ _ := RepS.takeM (s0 := w.heap.size) (M := [ag, V, ao, ac, ab, aa]) aD aG aH
   replace aD := aD.base (G' := fo F w.heap.size) (fun _ _ h => .inr h)
   replace aw : Own bo aE 51 (nin (ge w.heap.size) [aE, ag, V, ao, ac, ab, aa]) _ _ _ := Own.takeM (s0 := w.heap.size) (M := [ag, V, ao, ac, ab, aa]) aw aG aH
   replace aw := aw.base (G' := fo F w.heap.size) (fun _ _ h => .inr h)
   have eh := aw.max
   have ei := aw.len
   clear aG
   have cM := aB.len
   subst cM
   have cN := aC.len
   subst cN
   have cO := aD.len
   subst cO
   refine .sc [.slice dj (((((copyS s)).idx).names).length) dk, .slice dm (((((copyS s)).idx).posts).length) dp, .slice dq ((((copyS s)).parts).length) dr, vS aE dt du] O fun dv bC cP cQ => ?_
   replace ⟨af, ak, ar, W, Z, aB, aC, aD, aw, C⟩ := (so [aE, ag, V, ao, ac, ab, aa] bC).g10 af ak ar W Z aB aC aD aw C
   clear bC cQ
   refine .r 1 <| .d ?_
   have dw := aw.sl (.inr cL)
   replace ⟨af, ak, W, Z, aB, aC, aD⟩ := (sd dv [aE, ag, V, ao, ac, ab, aa] aE).g7 af ak W Z aB aC aD
   exact .r2 Tryz.func17 Tryz.results17 (.bx cP) (.t (.bool false)) ⟨⟨_, (tup2 rfl (congrArg Value.bool (by first | exact (congrArg Prod.fst (addP_no (.inl (by assumption)))).symm | exact (congrArg Prod.snd (addP_no (.inl (by assumption)))).symm | exact (congrArg Prod.fst (addP_no (.inr (by assumption)))).symm | exact (congrArg Prod.snd (addP_no (.inr (by assumption)))).symm | exact (congrArg Prod.fst (addQ_1 p0 (by assumption) (by assumption) (by assumption))).symm | exact (congrArg Prod.snd (addQ_1 p0 (by assumption) (by assumption) (by assumption))).symm | exact (congrArg Prod.fst (addQ_2 p0 (by assumption) (by assumption) (by assumption))).symm | exact (congrArg Prod.snd (addQ_2 p0 (by assumption) (by assumption) (by assumption))).symm | exact (congrArg Prod.fst (addQ_3 p0 (by assumption) (by assumption) (by assumption))).symm | exact (congrArg Prod.snd (addQ_3 p0 (by assumption) (by assumption) (by assumption))).symm | exact (congrArg Prod.fst (addQ_4 p0 (by assumption) (by assumption) (by assumption) (by assumption) (by assumption) (by assumption))).symm | exact (congrArg Prod.snd (addQ_4 p0 (by assumption) (by assumption) (by assumption) (by assumption) (by assumption) (by assumption))).symm | exact (congrArg Prod.fst (addQ_5 p0 (by assumption) (by assumption) (by assumption) (by assumption) (by assumption) (by assumption))).symm | exact (congrArg Prod.snd (addQ_5 p0 (by assumption) (by assumption) (by assumption) (by assumption) (by assumption) (by assumption))).symm))), (VS.of (y := (⟨(⟨(((copyS s)).idx).names, (((copyS s)).idx).posts⟩ : Idx), ((copyS s)).parts, ((copyS s)).mem⟩ : Sto)) ⟨_, rfl, ⟨_, _, _, _, _, _, _, _, _, _, _, _, rfl, aB.w1, aC.w1, aD.w1, dw.w1⟩⟩ (by first | exact (congrArg Prod.fst (addP_no (.inl (by assumption)))).symm | exact (congrArg Prod.snd (addP_no (.inl (by assumption)))).symm | exact (congrArg Prod.fst (addP_no (.inr (by assumption)))).symm | exact (congrArg Prod.snd (addP_no (.inr (by assumption)))).symm | exact (congrArg Prod.fst (addQ_1 p0 (by assumption) (by assumption) (by assumption))).symm | exact (congrArg Prod.snd (addQ_1 p0 (by assumption) (by assumption) (by assumption))).symm | exact (congrArg Prod.fst (addQ_2 p0 (by assumption) (by assumption) (by assumption))).symm | exact (congrArg Prod.snd (addQ_2 p0 (by assumption) (by assumption) (by assumption))).symm | exact (congrArg Prod.fst (addQ_3 p0 (by assumption) (by assumption) (by assumption))).symm | exact (congrArg Prod.snd (addQ_3 p0 (by assumption) (by assumption) (by assumption))).symm | exact (congrArg Prod.fst (addQ_4 p0 (by assumption) (by assumption) (by assumption) (by assumption) (by assumption) (by assumption))).symm | exact (congrArg Prod.snd (addQ_4 p0 (by assumption) (by assumption) (by assumption) (by assumption) (by assumption) (by assumption))).symm | exact (congrArg Prod.fst (addQ_5 p0 (by assumption) (by assumption) (by assumption) (by assumption) (by assumption) (by assumption))).symm | exact (congrArg Prod.snd (addQ_5 p0 (by assumption) (by assumption) (by assumption) (by assumption) (by assumption) (by assumption))).symm))⟩, C⟩
 refine .d <| .cf <| .sk <| .s <| .g <| .ln ar <| .sc [.slice aK ((((addI s.idx n).1).names).length) aL, .slice aM ((((addI s.idx n).1).posts).length) aN, .slice bq ((((copyS s)).parts).length) br, vS ao (aQ + 1) bU] O fun dx bD cR cS => ?_
 replace ⟨af, ak, W, Z, C⟩ := (so [ag, V, ao, ac, ab, aa] bD).g5 af ak W Z C
 clear bD cS
 refine .r 1 <| .d ?_
 have dy := ak.sl (.inr cH)
 replace ⟨af, W, Z⟩ := (sd dx [ag, V, ao, ac, ab, aa] ao).g3 af W Z
 exact .r2 Tryz.func17 Tryz.results17 (.bx cR) (.t (.bool true)) ⟨⟨_, (tup2 rfl (congrArg Value.bool (by first | exact (congrArg Prod.fst (addP_no (.inl (by assumption)))).symm | exact (congrArg Prod.snd (addP_no (.inl (by assumption)))).symm | exact (congrArg Prod.fst (addP_no (.inr (by assumption)))).symm | exact (congrArg Prod.snd (addP_no (.inr (by assumption)))).symm | exact (congrArg Prod.fst (addQ_1 p0 (by assumption) (by assumption) (by assumption))).symm | exact (congrArg Prod.snd (addQ_1 p0 (by assumption) (by assumption) (by assumption))).symm | exact (congrArg Prod.fst (addQ_2 p0 (by assumption) (by assumption) (by assumption))).symm | exact (congrArg Prod.snd (addQ_2 p0 (by assumption) (by assumption) (by assumption))).symm | exact (congrArg Prod.fst (addQ_3 p0 (by assumption) (by assumption) (by assumption))).symm | exact (congrArg Prod.snd (addQ_3 p0 (by assumption) (by assumption) (by assumption))).symm | exact (congrArg Prod.fst (addQ_4 p0 (by assumption) (by assumption) (by assumption) (by assumption) (by assumption) (by assumption))).symm | exact (congrArg Prod.snd (addQ_4 p0 (by assumption) (by assumption) (by assumption) (by assumption) (by assumption) (by assumption))).symm | exact (congrArg Prod.fst (addQ_5 p0 (by assumption) (by assumption) (by assumption) (by assumption) (by assumption) (by assumption))).symm | exact (congrArg Prod.snd (addQ_5 p0 (by assumption) (by assumption) (by assumption) (by assumption) (by assumption) (by assumption))).symm))), (VS.of (y := (⟨(⟨((addI s.idx n).1).names, ((addI s.idx n).1).posts⟩ : Idx), ((copyS s)).parts, (((copyS s)).mem ++ [(⟨(addI s.idx n).2.1, (⟨r.t, r.v⟩ : Row)⟩ : Smp)])⟩ : Sto)) ⟨_, rfl, ⟨_, _, _, _, _, _, _, _, _, _, _, _, rfl, W.w1, Z.w1, af.w1, dy.w1⟩⟩ (by first | exact (congrArg Prod.fst (addP_no (.inl (by assumption)))).symm | exact (congrArg Prod.snd (addP_no (.inl (by assumption)))).symm | exact (congrArg Prod.fst (addP_no (.inr (by assumption)))).symm | exact (congrArg Prod.snd (addP_no (.inr (by assumption)))).symm | exact (congrArg Prod.fst (addQ_1 p0 (by assumption) (by assumption) (by assumption))).symm | exact (congrArg Prod.snd (addQ_1 p0 (by assumption) (by assumption) (by assumption))).symm | exact (congrArg Prod.fst (addQ_2 p0 (by assumption) (by assumption) (by assumption))).symm | exact (congrArg Prod.snd (addQ_2 p0 (by assumption) (by assumption) (by assumption))).symm | exact (congrArg Prod.fst (addQ_3 p0 (by assumption) (by assumption) (by assumption))).symm | exact (congrArg Prod.snd (addQ_3 p0 (by assumption) (by assumption) (by assumption))).symm | exact (congrArg Prod.fst (addQ_4 p0 (by assumption) (by assumption) (by assumption) (by assumption) (by assumption) (by assumption))).symm | exact (congrArg Prod.snd (addQ_4 p0 (by assumption) (by assumption) (by assumption) (by assumption) (by assumption) (by assumption))).symm | exact (congrArg Prod.fst (addQ_5 p0 (by assumption) (by assumption) (by assumption) (by assumption) (by assumption) (by assumption))).symm | exact (congrArg Prod.snd (addQ_5 p0 (by assumption) (by assumption) (by assumption) (by assumption) (by assumption) (by assumption))).symm))⟩, C⟩
theorem c_impl_StoreRows (s : Sto) (id : Int) {w : World} {F : Nat → Prop} {a1 : Option Addr} {n1 c1 : Nat} (h1 : RepS w F a1 n1 c1 s.idx.names) {a2 : Option Addr} {n2 c2 : Nat} (h2 : RepS w F a2 n2 c2 s.idx.posts) {a3 : Option Addr} {n3 c3 : Nat} (h3 : RepS w F a3 n3 c3 s.parts) {a4 : Option Addr} {n4 c4 : Nat} (h4 : RepS w F a4 n4 c4 s.mem) (p0 : SD s) : Calls Tryz.prog 24 [.agg #[.slice a1 n1 c1, .slice a2 n2 c2, .slice a3 n3 c3, .slice a4 n4 c4], .int .i64 id].toArray w (rets fun rv w' => VL (ge w.heap.size) w' (rowsI s id : List Row) rv ∧ Ext w w') := by
 refine goT Tryz.func24 ?_
 obtain ⟨rfl, aI, h1⟩ := h1.tp
 obtain ⟨rfl, aJ, h2⟩ := h2.tp
 obtain ⟨rfl, aK, h3⟩ := h3.tp
 obtain ⟨rfl, aL, h4⟩ := h4.tp
 refine .s <| .g <| .np 30 [.slice a1 s.idx.names.length c1, .slice a2 s.idx.posts.length c2, .slice a3 s.parts.length c3, .slice a4 s.mem.length c4] fun J aC ac W E al => ?_
 replace ⟨h1, h2, h3, h4⟩ := (sn [] W ac).g4 h1 h2 h3 h4
 have C := W
 clear W al ac
 refine .r 1 <| .d <| .s <| .s <| .g <| .ln E <| .cl (c_impl_StoreOk s h1.ta h2.ta h3.ta h4.ta p0 (w := aC) (F := all)) ?_
 rintro aS aD ⟨rfl, ae⟩
 replace ⟨h1, h2, h3, h4, E, C⟩ := (se [J] ae).g6 h1 h2 h3 h4 E C
 clear ae
 cases aM : (storeOk s)
 · refine .r 10 <| .d <| .ct <| .s <| .g <| .ns 0 33 [] fun Z am O af ao aq => ?_
   have aN := nb_new O E.lt
   have ar := gb_new O C.size
   replace ⟨h1, h2, h3, h4, E, C⟩ := (sn [J] af O).g6 h1 h2 h3 h4 E C
   clear af aq O
   have au : Own (α := Row) am Z 33 (nin (ge w.heap.size) [Z, J]) 0 0 [] := Own.nil' ao
   refine .r 1 <| .d ?_
   have aE := au.sl ar
   replace ⟨h1, h2, h3, h4⟩ := (sd am [Z, J] Z).g4 h1 h2 h3 h4
   exact .rt Tryz.func24 Tryz.results24 (vS Z 0 0) ⟨(aE.vl (by first | rw [rowsI_no (.inl (by assumption))] | rw [rowsI_no (.inr (by assumption))] | rw [rowsI_yes (by assumption) (by assumption)]) (fun _ _ h => h.1)), C⟩
 refine .r 5 <| .lb E <| .r 1 <| .cl (c_impl_within id 1 (s.idx.names.length : Int) (w := aD) (F := all)) ?_
 rintro aT av ⟨rfl, ag⟩
 replace ⟨h1, h2, h3, h4, E, C⟩ := (se [J] ag).g6 h1 h2 h3 h4 E C
 clear ag
 cases ah : (inR id 1 (s.idx.names.length : Int))
 · have aO := inR_f ah
   refine .r 2 <| .d <| .ct <| .s <| .g <| .ns 0 33 [] fun aa aw V ai ax ay => ?_
   have aP := nb_new V E.lt
   have az := gb_new V C.size
   replace ⟨h1, h2, h3, h4, E, C⟩ := (sn [J] ai V).g6 h1 h2 h3 h4 E C
   clear ai ay V
   have aA : Own (α := Row) aw aa 33 (nin (ge w.heap.size) [aa, J]) 0 0 [] := Own.nil' ax
   refine .r 1 <| .d ?_
   have aF := aA.sl az
   replace ⟨h1, h2, h3, h4⟩ := (sd aw [aa, J] aa).g4 h1 h2 h3 h4
   exact .rt Tryz.func24 Tryz.results24 (vS aa 0 0) ⟨(aF.vl (by first | rw [rowsI_no (.inl (by assumption))] | rw [rowsI_no (.inr (by assumption))] | rw [rowsI_yes (by assumption) (by assumption)]) (fun _ _ h => h.1)), C⟩
 have aQ := inR_t ah
 refine .r 2 <| .d <| .cf <| .sk <| .s <| .g <| .ln E <| .r 1 <| .cl (c_impl_Store_rows s id h1.ta h2.ta h3.ta h4.ta (StoK.of p0 (by assumption)).part (StoK.of p0 (by assumption)).row (by have := p0.np; omega) (by have := p0.nm2; omega) (w := av) (F := all)) ?_
 rintro aU aV ⟨⟨aG, aH, rfl, ab⟩, aj⟩
 have ak := al1 E.lt
 have aB : Gb w.heap.size av.heap.size := C.size
 replace C := (se [] aj).g1 C
 clear aj
 have ab := ab.fr ak aB
 have aR := ab.max
 clear ak
 exact .r 1 <| .d <| .rt Tryz.func24 Tryz.results24 (.slice aG ((rowsOf s id).length) aH) ⟨(ab.vl (by first | rw [rowsI_no (.inl (by assumption))] | rw [rowsI_no (.inr (by assumption))] | rw [rowsI_yes (by assumption) (by assumption)]) (fun _ _ h => h.1)), C⟩
end Go.Proofs.YtfnpaglcnmcnbaaGreat
