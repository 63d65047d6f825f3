/- walks; squeezed -/
import Derived.Test.YtndljnhfkdhggaaGreatMod22
set_option linter.unusedVariables false
set_option linter.unusedSimpArgs false
namespace Go.Proofs.YtndljnhfkdhggaaGreat
set_option maxRecDepth 100000
set_option maxHeartbeats 4000000
theorem c_impl_IndexOk (ix : Idx) {w : World} {F : Nat → Prop} {a1 : Option Addr} {n1 c1 : Nat} (h1 : RepS w F a1 n1 c1 ix.names) {a2 : Option Addr} {n2 c2 : Nat} (h2 : RepS w F a2 n2 c2 ix.posts) (p0 : IxI ix) (p1 : NsD ix.names) : Calls Tryz.prog 26 [.agg #[.slice a1 n1 c1, .slice a2 n2 c2]].toArray w (rets fun rv w' => rv = .bool (true) ∧ Ext w w') := by
 refine goT Tryz.func26 ?_
 obtain ⟨rfl, ar, h1⟩ := h1.tp
 obtain ⟨rfl, au, h2⟩ := h2.tp
 refine .s <| .g <| .np 26 [.slice a1 ix.names.length c1, .slice a2 ix.posts.length c2] fun aa ax ac O E aj => ?_
 replace ⟨h1, h2⟩ := (sn [] O ac).g2 h1 h2
 have C := O
 clear O aj ac
 refine .r 1 <| .d <| .s <| .gd nil 10 fun ay ae => ?_
 replace ⟨h1, h2, E, C⟩ := (se [aa] ae).g4 h1 h2 E C
 clear ae
 refine .r [0] <| .lb 1 E id <| GA.call1 (i := 2) (by kernel_rfl) (fun ao ak => c_impl_namesOk ix.names (h1.ta.ext ak) p0.nm (w := ao) (F := all)) <| .r [3, 4] <| .lb 5 E id <| .r [6] <| .lb 7 E id <| .go 8 <| .cl (fun ai V => c_impl_indexOf ix.names (h1.ta.ext V) p0.nm p1 (w := ai) (F := all)) ?_
 intro ai V
 replace ⟨h2, E, C⟩ := (se [aa] V).g3 h2 E C
 rintro az aA ⟨⟨_, rfl, ⟨aB, aC, aD, aE, aF, aG, rfl, ab, J⟩⟩, W⟩
 have Z := al1 E.lt
 have af : Gb w.heap.size ai.heap.size := C.size
 have hkeep_ := W
 replace ⟨h2, C⟩ := (se [aa] W).g2 h2 C
 clear W
 refine ⟨Ext.chg hkeep_, ?_⟩
 have ab := ab.fr Z af
 have av := ab.max
 have J := J.fr Z af
 have aw := J.max
 clear Z
 have al := ab.len
 subst al
 have am := J.len
 subst am
 refine .r [9] <| .d fun aq ag => ?_
 replace ⟨h2, J, C⟩ := (se [aa] ag).g3 h2 J C
 clear ag
 refine .cl (c_EqualFunc_posts ix.posts ((idxOf ix.names).posts) h2.ta J.ta (w := aq) (F := all)) ?_
 rintro aH aI ⟨rfl, ah⟩
 replace C := (se [] ah).g1 C
 clear ah
 exact .r 2 <| .d <| .rt Tryz.func26 Tryz.results26 (.bool (ix.posts == ((idxOf ix.names).posts))) ⟨(congrArg Value.bool (by rw [p0.posts]; simp [idxOf])), C⟩
theorem c_impl_IndexAdd (ix : Idx) (n : List Tag) {w : World} {F : Nat → Prop} {a1 : Option Addr} {n1 c1 : Nat} (h1 : RepS w F a1 n1 c1 ix.names) {a2 : Option Addr} {n2 c2 : Nat} (h2 : RepS w F a2 n2 c2 ix.posts) {a3 : Option Addr} {n3 c3 : Nat} (h3 : RepS w F a3 n3 c3 n) (p0 : IxI ix) (p1 : NsD ix.names) (p2 : NmD n) : Calls Tryz.prog 8 [.agg #[.slice a1 n1 c1, .slice a2 n2 c2], .slice a3 n3 c3].toArray w (rets fun rv w' => (∃ v0, rv = .tuple #[v0, .int .i64 ((addI ix n).2.1), .bool ((addI ix n).2.2)] ∧ VS (fo F w.heap.size) w' ((addI ix n).1 : Idx) v0) ∧ Ext w w') := by
 refine goT Tryz.func8 ?_
 obtain ⟨rfl, dy, h1⟩ := h1.tp
 obtain ⟨rfl, dz, h2⟩ := h2.tp
 obtain ⟨rfl, dA, h3⟩ := h3.tp
 refine .s <| .g <| .np 26 [.slice a1 ix.names.length c1, .slice a2 ix.posts.length c2] fun W ec bQ bg E cK => ?_
 replace ⟨h1, h2, h3⟩ := (sn [] bg bQ).g3 h1 h2 h3
 have C := bg
 clear bg cK bQ
 refine .np 26 [.slice none 0 0, .slice none 0 0] fun V c8 aR bR J cL => ?_
 have bS := nb_new aR E.lt
 have dB := C.cn aR
 replace ⟨h1, h2, h3, E, C⟩ := (sn [W] bR aR).g5 h1 h2 h3 E C
 clear bR cL aR
 refine .r 2 <| .d <| .s <| .s <| .g <| .ln E <| .cl (c_impl_IndexOk ix h1.ta h2.ta p0 p1 (w := c8) (F := all)) ?_
 rintro ed c9 ⟨rfl, bT⟩
 replace ⟨h1, h3, E, J, C⟩ := (se [V, W] bT).g5 h1 h3 E J C
 clear bT
 refine .r 3 <| .cl (c_impl_NameOk n h3.ta (w := c9) (F := all)) ?_
 rintro ee da ⟨rfl, bU⟩
 replace ⟨h1, h3, E, J, C⟩ := (se [V, W] bU).g5 h1 h3 E J C
 clear bU
 cases dC : (nameOk n)
 · refine .r 2 <| .d <| .ct <| .s <| .g <| .r 1 <| .sc [.slice none 0 0, .slice none 0 0] J fun ef bV cM cN => ?_
   replace ⟨h1, h3, E, C⟩ := (so [V, W] bV).g4 h1 h3 E C
   clear bV cN
   exact .r 2 <| .d <| T.ret3 (v := .agg #[.slice none 0 0, .slice none 0 0]) (v' := vI 0) (v'' := .bool false) (by kernel_rfl) Tryz.func8 Tryz.results8 (Res1.cell (ad := ⟨V, 0, none⟩) (by kernel_rfl) ((cM.has 0 [.slice none 0 0, .slice none 0 0] (by kernel_rfl)).loadN (by kernel_rfl))) (Res1.tmp (by kernel_rfl)) (Res1.tmp (by kernel_rfl)) ⟨⟨_, (tup3 rfl (congrArg (Value.int .i64) (by first | rw [addI_no (by assumption)] | (rw [addI_hit p0 (by assumption) (by assumption)]; done) | (rw [addI_full p0 (by assumption) (by assumption) (by assumption)]; done) | (rw [addI_new p0 (by assumption) (by assumption) (by assumption)]; done))) (congrArg Value.bool (by first | rw [addI_no (by assumption)] | (rw [addI_hit p0 (by assumption) (by assumption)]; done) | (rw [addI_full p0 (by assumption) (by assumption) (by assumption)]; done) | (rw [addI_new p0 (by assumption) (by assumption) (by assumption)]; done)))), (VS.of (y := (⟨([] : List (List Tag)), ([] : List Pst)⟩ : Idx)) ⟨_, rfl, ⟨_, _, _, _, _, _, rfl, (RepS.nil' _ _ none 0 (by decide)), (RepS.nil' _ _ none 0 (by decide))⟩⟩ (by first | rw [addI_no (by assumption)] | (rw [addI_hit p0 (by assumption) (by assumption)]; done) | (rw [addI_full p0 (by assumption) (by assumption) (by assumption)]; done) | (rw [addI_new p0 (by assumption) (by assumption) (by assumption)]; done)))⟩, C⟩
 refine .r 2 <| .d <| .cf <| .sk <| .s <| .s <| .g <| .r 1 <| .lb E <| .r 1 <| .cl (c_impl_numberOf ix.names n h1.ta h3.ta (w := da) (F := all)) ?_
 rintro eg aj ⟨rfl, bW⟩
 replace ⟨h1, h3, E, J, C⟩ := (se [V, W] bW).g5 h1 h3 E J C
 clear bW
 refine .r 1 <| .d <| .s <| .g <| .r 1 <| .bp ((idxN n 0 ix.names + 1) > 0) (fun cO => ?_) (fun cO => ?_)
 · refine .d <| .ct <| .s <| .g <| .r 1 <| .lb E <| .cl (c_impl_indexOf ix.names h1.ta (by first | exact p0.nm | exact NmI.add2 p0 (by assumption) (by assumption) (by assumption)) (by first | exact p1 | exact p1.add p2) (w := aj) (F := all)) ?_
   rintro eh ei ⟨⟨_, rfl, ⟨b7, ej, b8, b9, ek, cd, rfl, ar, au⟩⟩, bX⟩
   have bh := al2 J.lt E.lt
   have bY : Gb w.heap.size aj.heap.size := C.size
   replace ⟨h1, h3, E, J, C⟩ := (se [V, W] bX).g5 h1 h3 E J C
   clear bX
   have ar := ar.fr bh bY
   replace ar := ar.base (G' := fo F w.heap.size) (fun _ _ h => .inr h)
   have dD := ar.max
   have au := au.fr bh bY
   replace au := au.base (G' := fo F w.heap.size) (fun _ _ h => .inr h)
   have dE := au.max
   clear bh
   have cP := ar.len
   subst cP
   have cQ := au.len
   subst cQ
   refine .r 1 <| .sc [.slice b7 (((idxOf ix.names).names).length) b8, .slice b9 (((idxOf ix.names).posts).length) cd] J fun em bZ cR cS => ?_
   replace ⟨h1, h3, E, ar, au, C⟩ := (so [V, W] bZ).g6 h1 h3 E ar au C
   clear bZ cS
   exact .r 2 <| .d <| T.ret3 (v := .agg #[.slice b7 (((idxOf ix.names).names).length) b8, .slice b9 (((idxOf ix.names).posts).length) cd]) (v' := vI (idxN n 0 ix.names + 1)) (v'' := .bool true) (by kernel_rfl) Tryz.func8 Tryz.results8 (Res1.cell (ad := ⟨V, 0, none⟩) (by kernel_rfl) ((cR.has 0 [.slice b7 (((idxOf ix.names).names).length) b8, .slice b9 (((idxOf ix.names).posts).length) cd] (by kernel_rfl)).loadN (by kernel_rfl))) (Res1.tmp (by kernel_rfl)) (Res1.tmp (by kernel_rfl)) ⟨⟨_, (tup3 rfl (congrArg (Value.int .i64) (by first | rw [addI_no (by assumption)] | (rw [addI_hit p0 (by assumption) (by assumption)]; done) | (rw [addI_full p0 (by assumption) (by assumption) (by assumption)]; done) | (rw [addI_new p0 (by assumption) (by assumption) (by assumption)]; done))) (congrArg Value.bool (by first | rw [addI_no (by assumption)] | (rw [addI_hit p0 (by assumption) (by assumption)]; done) | (rw [addI_full p0 (by assumption) (by assumption) (by assumption)]; done) | (rw [addI_new p0 (by assumption) (by assumption) (by assumption)]; done)))), (VS.of (y := (idxOf ix.names)) ⟨_, rfl, ⟨_, _, _, _, _, _, rfl, ar.w1, au.w1⟩⟩ (by first | rw [addI_no (by assumption)] | (rw [addI_hit p0 (by assumption) (by assumption)]; done) | (rw [addI_full p0 (by assumption) (by assumption) (by assumption)]; done) | (rw [addI_new p0 (by assumption) (by assumption) (by assumption)]; done)))⟩, C⟩
 refine .d <| .cf <| .sk <| .s <| .s <| .g <| .r 1 <| .lb E <| .r 1 <| .eq (ix.names.length : Int) 6 (fun cT => ?_) (fun cT => ?_)
 · refine .d <| .ct <| .s <| .g <| .r 1 <| .lb E <| .cl (c_impl_indexOf ix.names h1.ta (by first | exact p0.nm | exact NmI.add2 p0 (by assumption) (by assumption) (by assumption)) (by first | exact p1 | exact p1.add p2) (w := aj) (F := all)) ?_
   rintro en eo ⟨⟨_, rfl, ⟨ce, ep, cg, ci, es, cj, rfl, av, aw⟩⟩, b0⟩
   have bi := al2 J.lt E.lt
   have b6 : Gb w.heap.size aj.heap.size := C.size
   replace ⟨h1, h3, E, J, C⟩ := (se [V, W] b0).g5 h1 h3 E J C
   clear b0
   have av := av.fr bi b6
   replace av := av.base (G' := fo F w.heap.size) (fun _ _ h => .inr h)
   have dF := av.max
   have aw := aw.fr bi b6
   replace aw := aw.base (G' := fo F w.heap.size) (fun _ _ h => .inr h)
   have dG := aw.max
   clear bi
   have cU := av.len
   subst cU
   have cV := aw.len
   subst cV
   refine .sc [.slice ce (((idxOf ix.names).names).length) cg, .slice ci (((idxOf ix.names).posts).length) cj] J fun dH bj ck cm => ?_
   replace ⟨h1, h3, E, av, aw, C⟩ := (so [V, W] bj).g6 h1 h3 E av aw C
   clear bj cm
   exact .r 2 <| .d <| T.ret3 (v := .agg #[.slice ce (((idxOf ix.names).names).length) cg, .slice ci (((idxOf ix.names).posts).length) cj]) (v' := vI 0) (v'' := .bool false) (by kernel_rfl) Tryz.func8 Tryz.results8 (Res1.cell (ad := ⟨V, 0, none⟩) (by kernel_rfl) ((ck.has 0 [.slice ce (((idxOf ix.names).names).length) cg, .slice ci (((idxOf ix.names).posts).length) cj] (by kernel_rfl)).loadN (by kernel_rfl))) (Res1.tmp (by kernel_rfl)) (Res1.tmp (by kernel_rfl)) ⟨⟨_, (tup3 rfl (congrArg (Value.int .i64) (by first | rw [addI_no (by assumption)] | (rw [addI_hit p0 (by assumption) (by assumption)]; done) | (rw [addI_full p0 (by assumption) (by assumption) (by assumption)]; done) | (rw [addI_new p0 (by assumption) (by assumption) (by assumption)]; done))) (congrArg Value.bool (by first | rw [addI_no (by assumption)] | (rw [addI_hit p0 (by assumption) (by assumption)]; done) | (rw [addI_full p0 (by assumption) (by assumption) (by assumption)]; done) | (rw [addI_new p0 (by assumption) (by assumption) (by assumption)]; done)))), (VS.of (y := (idxOf ix.names)) ⟨_, rfl, ⟨_, _, _, _, _, _, rfl, av.w1, aw.w1⟩⟩ (by first | rw [addI_no (by assumption)] | (rw [addI_hit p0 (by assumption) (by assumption)]; done) | (rw [addI_full p0 (by assumption) (by assumption) (by assumption)]; done) | (rw [addI_new p0 (by assumption) (by assumption) (by assumption)]; done)))⟩, C⟩
 refine .d <| .cf <| .sk <| .s ?_
 replace h1 := h1.into
 replace h3 := h3.into
 have bk : Gb (W + 1) aj.heap.size := E.lt
 have bm : Cov (mtb [V] aj.heap.size) aj V := ⟨.inl (.inl (.head _))⟩
 refine .gd (mtb [V] aj.heap.size) 12 fun cW az => ?_
 replace ⟨h1, h3, E, J, C⟩ := (se [V, W] az).g5 h1 h3 E J C
 have O : Chg (mtb [V] aj.heap.size) aj cW := Chg.stepN (Chg.refl (mtb [V] aj.heap.size) aj) az
 clear az
 refine .r [0] <| .lb 1 E (nS_of (all_cons (Nb.symm bS) all_nil) bk) <| .r [3, 7] <| .lb 8 E (nS_of (all_cons (Nb.symm bS) all_nil) bk) <| .r [9] <| GA.int (i := 10) ((ix.names.length : Int) + 1) (by kernel_rfl) (by have := p0.nm.len; omega) <| .tw 2 4 ?_ ?_
 · refine .cl (fun bn aA => c_impl_cloneNames ix.names (h1.ta.ext aA) (by have := p0.nm.len; omega) (fun n hn => by have := (p0.nm.sz n hn).1; omega) (w := bn) (F := all)) ?_
   intro bn aA
   replace ⟨h1, h3, E, J, C, O⟩ := (se [V, W] aA).g6 h1 h3 E J C O
   rintro dI dJ ⟨⟨ak, cX, cY, rfl, Z, am⟩, aB⟩
   have bo := al2 J.lt E.lt
   have co : Gb w.heap.size bn.heap.size := C.size
   have hkeep_ := aB
   have db := nb_ge am E.lt
   have dd := nb_ge am J.lt
   have de : Cov nil w ak := cov_ge am C.size
   have cp : Cov (mtb [V] aj.heap.size) aj ak := cov_ge am O.size
   replace ⟨h1, h3, E, J, C, O⟩ := (sz [V, W] aB am).g6 h1 h3 E J C O
   clear aB am
   refine ⟨Ext.chg hkeep_, ?_⟩
   replace Z := Own.take (s0 := w.heap.size) (M := [V, W]) Z bo co
   replace Z := Z.base (G' := fo F w.heap.size) (fun _ _ h => .inr h)
   have df := Z.len; have dg := Z.max
   clear bo
   refine .go 4 <| .ns 1 31 [.slice a3 n.length c3] fun dK bq => ?_
   replace ⟨h1, h3, E, J, Z, C, O⟩ := (se [ak, V, W] bq).g7 h1 h3 E J Z C O
   clear bq
   intro br dL ao bt aC cq
   have cr := nb_new ao E.lt
   have cu := nb_new ao J.lt
   have bu := nb_new ao Z.lt
   have cv := gb_new ao C.size
   replace ⟨h1, h3, E, J, Z, C, O⟩ := (se [ak, V, W] bt).g7 h1 h3 E J Z C O
   clear bt cq ao
   refine .go 5 <| GE.append (T := 23) (ty := 23) (args := [vS ak cX cY, vS br 1 1]) (by kernel_rfl) fun dM bv => ?_
   replace ⟨h1, h3, E, J, Z, aC, C, O⟩ := (se [ak, V, W] bv).g8 h1 h3 E J Z aC C O
   clear bv
   have bc : nin (fo F w.heap.size) [ak, V, W] br ∧ br ≠ ak := hap_mk (.inr cv) (all_cons bu (all_cons cu (all_cons cr all_nil))) bu
   obtain ⟨ay, dN, dO, bw, ag, aS, aD, cw⟩ := Z.append1 (P := Tryz.prog) (T := 23) (ty := 23) (y := n) (by kernel_rfl) aC ⟨_, _, _, rfl, ((h3.base (fun _ _ h => h.1)).weak (fun b _ h => own_in (.head _) h))⟩ bc (by have := p0.nm.len; omega)
   refine ⟨_, _, bw, Chg.toS aD (Cov.toS cp), ?_⟩
   clear cw
   replace ⟨h1, h3, E, J, C, O⟩ := (sa [ak, V, W] aD aS).g6 h1 h3 E J C O
   clear aD
   replace ag := ag.rn ak
   clear aS
   have dh := ag.len; have di := ag.max
   refine .go 6 <| .cl (fun bz aE => c_impl_indexOf (ix.names ++ [n]) ((ag.rep).ext aE) (by first | exact p0.nm | exact NmI.add2 p0 (by assumption) (by assumption) (by assumption)) (by first | exact p1 | exact p1.add p2) (w := bz) (F := all)) ?_
   intro bz aE
   replace ⟨h1, h3, E, J, ag, C, O⟩ := (se [ay, V, W] aE).g7 h1 h3 E J ag C O
   rintro dP dQ ⟨⟨_, rfl, ⟨aT, dR, aU, aV, dS, aW, rfl, aa, ab⟩⟩, aF⟩
   have aG := al3 ag.lt J.lt E.lt
   have bA : Gb w.heap.size bz.heap.size := C.size
   have hkeep_ := aF
   replace ⟨h1, h3, E, J, C, O⟩ := (se [ay, V, W] aF).g6 h1 h3 E J C O
   clear aF
   refine ⟨Ext.chg hkeep_, ?_⟩
   have aa := aa.fr aG bA
   replace aa := aa.base (G' := fo F w.heap.size) (fun _ _ h => .inr h)
   have dj := aa.max
   have ab := ab.fr aG bA
   replace ab := ab.base (G' := fo F w.heap.size) (fun _ _ h => .inr h)
   have dk := ab.max
   clear aG
   have cx := aa.len
   subst cx
   have cy := ab.len
   subst cy
   refine .go 11 <| GE.storeB (t' := 26) (o := 0) (v := .agg #[.slice aT (((idxOf (ix.names ++ [n])).names).length) aU, .slice aV (((idxOf (ix.names ++ [n])).posts).length) aW]) [.slice aT (((idxOf (ix.names ++ [n])).names).length) aU, .slice aV (((idxOf (ix.names ++ [n])).posts).length) aW] J (by kernel_rfl) (by kernel_rfl) (by kernel_rfl) fun dT bB => ?_
   replace ⟨h1, h3, E, J, aa, ab, C, O⟩ := (se [ay, V, W] bB).g8 h1 h3 E J aa ab C O
   clear bB
   intro dU aH aI cz
   have hkeep_ := Chg.toS aH (Cov.toS bm)
   clear cz
   replace ⟨h1, h3, E, aa, ab, C, O⟩ := (so [ay, V, W] aH).g7 h1 h3 E aa ab C O
   clear aH
   refine ⟨hkeep_, ?_⟩
   refine .d fun dV bC => ?_
   replace ⟨h1, h3, E, aI, aa, ab, C, O⟩ := (se [ay, V, W] bC).g8 h1 h3 E aI aa ab C O
   clear bC
   replace h1 := h1.outof
   replace h3 := h3.outof
   exact .r 2 <| .d <| T.ret3 (v := .agg #[.slice aT (((idxOf (ix.names ++ [n])).names).length) aU, .slice aV (((idxOf (ix.names ++ [n])).posts).length) aW]) (v' := vI ((ix.names.length : Int) + 1)) (v'' := .bool true) (by kernel_rfl) Tryz.func8 Tryz.results8 (Res1.cell (ad := ⟨V, 0, none⟩) (by kernel_rfl) ((aI.has 0 [.slice aT (((idxOf (ix.names ++ [n])).names).length) aU, .slice aV (((idxOf (ix.names ++ [n])).posts).length) aW] (by kernel_rfl)).loadN (by kernel_rfl))) (Res1.tmp (by kernel_rfl)) (Res1.tmp (by kernel_rfl)) ⟨⟨_, (tup3 rfl (congrArg (Value.int .i64) (by first | rw [addI_no (by assumption)] | (rw [addI_hit p0 (by assumption) (by assumption)]; done) | (rw [addI_full p0 (by assumption) (by assumption) (by assumption)]; done) | (rw [addI_new p0 (by assumption) (by assumption) (by assumption)]; done))) (congrArg Value.bool (by first | rw [addI_no (by assumption)] | (rw [addI_hit p0 (by assumption) (by assumption)]; done) | (rw [addI_full p0 (by assumption) (by assumption) (by assumption)]; done) | (rw [addI_new p0 (by assumption) (by assumption) (by assumption)]; done)))), (VS.of (y := (idxOf (ix.names ++ [n]))) ⟨_, rfl, ⟨_, _, _, _, _, _, rfl, aa.w1, ab.w1⟩⟩ (by first | rw [addI_no (by assumption)] | (rw [addI_hit p0 (by assumption) (by assumption)]; done) | (rw [addI_full p0 (by assumption) (by assumption) (by assumption)]; done) | (rw [addI_new p0 (by assumption) (by assumption) (by assumption)]; done)))⟩, C⟩
 refine .ns 1 31 [.slice a3 n.length c3] fun dW bD => ?_
 replace ⟨h1, h3, E, J, C, O⟩ := (se [V, W] bD).g6 h1 h3 E J C O
 clear bD
 intro bE dX ax bF ah cA
 have cB := nb_new ax E.lt
 have cC := nb_new ax J.lt
 have cD := gb_new ax C.size
 replace ⟨h1, h3, E, J, C, O⟩ := (se [V, W] bF).g6 h1 h3 E J C O
 clear bF cA ax
 refine .go 2 <| .cl (fun bG aJ => c_impl_cloneNames ix.names (h1.ta.ext aJ) (by have := p0.nm.len; omega) (fun n hn => by have := (p0.nm.sz n hn).1; omega) (w := bG) (F := all)) ?_
 intro bG aJ
 replace ⟨h3, E, J, ah, C, O⟩ := (se [V, W] aJ).g6 h3 E J ah C O
 rintro dY dZ ⟨⟨aq, cZ, c7, rfl, af, al⟩, aK⟩
 have bH := al2 J.lt E.lt
 have cE : Gb w.heap.size bG.heap.size := C.size
 have hkeep_ := aK
 have dm := nb_ge al E.lt
 have dp := nb_ge al J.lt
 have bI := nb_ge al ah.lt
 have dq : Cov nil w aq := cov_ge al C.size
 have cF : Cov (mtb [V] aj.heap.size) aj aq := cov_ge al O.size
 replace ⟨h3, E, J, ah, C⟩ := (sz [V, W] aK al).g5 h3 E J ah C
 clear aK al
 refine ⟨Ext.chg hkeep_, ?_⟩
 replace af := Own.take (s0 := w.heap.size) (M := [V, W]) af bH cE
 replace af := af.base (G' := fo F w.heap.size) (fun _ _ h => .inr h)
 have dr := af.len; have dt := af.max
 clear bH
 refine .go 5 <| GE.append (T := 23) (ty := 23) (args := [vS aq cZ c7, vS bE 1 1]) (by kernel_rfl) fun d0 bJ => ?_
 replace ⟨h3, E, J, ah, af, C⟩ := (se [aq, V, W] bJ).g6 h3 E J ah af C
 clear bJ
 have bd : nin (fo F w.heap.size) [aq, V, W] bE ∧ bE ≠ aq := hap_mk (.inr cD) (all_cons (Nb.symm bI) (all_cons cC (all_cons cB all_nil))) (Nb.symm bI)
 obtain ⟨aX, d3, d4, bK, ai, bP, aL, cG⟩ := af.append1 (P := Tryz.prog) (T := 23) (ty := 23) (y := n) (by kernel_rfl) ah ⟨_, _, _, rfl, ((h3.base (fun _ _ h => h.1)).weak (fun b _ h => own_in (.head _) h))⟩ bd (by have := p0.nm.len; omega)
 refine ⟨_, _, bK, Chg.toS aL (Cov.toS cF), ?_⟩
 clear cG
 replace ⟨E, J, C⟩ := (s1 aL).g3 E J C
 clear aL
 replace ai := ai.rn aq
 clear bP
 have du := ai.len; have dv := ai.max
 refine .go 6 <| .cl (fun bL aM => c_impl_indexOf (ix.names ++ [n]) ((ai.rep).ext aM) (by first | exact p0.nm | exact NmI.add2 p0 (by assumption) (by assumption) (by assumption)) (by first | exact p1 | exact p1.add p2) (w := bL) (F := all)) ?_
 intro bL aM
 replace ⟨E, J, ai, C⟩ := (se [aX, V, W] aM).g4 E J ai C
 rintro d5 d6 ⟨⟨_, rfl, ⟨aY, d7, aZ, ba, d8, bb, rfl, ac, ae⟩⟩, aN⟩
 have aO := al3 ai.lt J.lt E.lt
 have bM : Gb w.heap.size bL.heap.size := C.size
 have hkeep_ := aN
 replace ⟨J, C⟩ := (se [] aN).g2 J C
 clear aN
 refine ⟨Ext.chg hkeep_, ?_⟩
 have ac := ac.fr aO bM
 replace ac := ac.base (G' := fo F w.heap.size) (fun _ _ h => .inr h)
 have dw := ac.max
 have ae := ae.fr aO bM
 replace ae := ae.base (G' := fo F w.heap.size) (fun _ _ h => .inr h)
 have dx := ae.max
 clear aO
 have cH := ac.len
 subst cH
 have cI := ae.len
 subst cI
 refine .go 11 <| GE.storeB (t' := 26) (o := 0) (v := .agg #[.slice aY (((idxOf (ix.names ++ [n])).names).length) aZ, .slice ba (((idxOf (ix.names ++ [n])).posts).length) bb]) [.slice aY (((idxOf (ix.names ++ [n])).names).length) aZ, .slice ba (((idxOf (ix.names ++ [n])).posts).length) bb] J (by kernel_rfl) (by kernel_rfl) (by kernel_rfl) fun d9 bN => ?_
 replace ⟨ac, ae, C⟩ := (se [aX, V, W] bN).g3 ac ae C
 clear bN
 intro ea aP aQ cJ
 have hkeep_ := Chg.toS aP (Cov.toS bm)
 clear cJ
 replace ⟨ac, ae, C⟩ := (so [aX, V, W] aP).g3 ac ae C
 clear aP
 refine ⟨hkeep_, ?_⟩
 refine .d fun eb bO => ?_
 replace ⟨aQ, ac, ae, C⟩ := (se [aX, V, W] bO).g4 aQ ac ae C
 clear bO
 exact .r 2 <| .d <| T.ret3 (v := .agg #[.slice aY (((idxOf (ix.names ++ [n])).names).length) aZ, .slice ba (((idxOf (ix.names ++ [n])).posts).length) bb]) (v' := vI ((ix.names.length : Int) + 1)) (v'' := .bool true) (by kernel_rfl) Tryz.func8 Tryz.results8 (Res1.cell (ad := ⟨V, 0, none⟩) (by kernel_rfl) ((aQ.has 0 [.slice aY (((idxOf (ix.names ++ [n])).names).length) aZ, .slice ba (((idxOf (ix.names ++ [n])).posts).length) bb] (by kernel_rfl)).loadN (by kernel_rfl))) (Res1.tmp (by kernel_rfl)) (Res1.tmp (by kernel_rfl)) ⟨⟨_, (tup3 rfl (congrArg (Value.int .i64) (by first | rw [addI_no (by assumption)] | (rw [addI_hit p0 (by assumption) (by assumption)]; done) | (rw [addI_full p0 (by assumption) (by assumption) (by assumption)]; done) | (rw [addI_new p0 (by assumption) (by assumption) (by assumption)]; done))) (congrArg Value.bool (by first | rw [addI_no (by assumption)] | (rw [addI_hit p0 (by assumption) (by assumption)]; done) | (rw [addI_full p0 (by assumption) (by assumption) (by assumption)]; done) | (rw [addI_new p0 (by assumption) (by assumption) (by assumption)]; done)))), (VS.of (y := (idxOf (ix.names ++ [n]))) ⟨_, rfl, ⟨_, _, _, _, _, _, rfl, ac.w1, ae.w1⟩⟩ (by first | rw [addI_no (by assumption)] | (rw [addI_hit p0 (by assumption) (by assumption)]; done) | (rw [addI_full p0 (by assumption) (by assumption) (by assumption)]; done) | (rw [addI_new p0 (by assumption) (by assumption) (by assumption)]; done)))⟩, C⟩
theorem c_impl_cloneStore (s : Sto) {w : World} {F : Nat → Prop} {a1 : Option Addr} {n1 c1 : Nat} (h1 : RepS w F a1 n1 c1 s.idx.names) {a2 : Option Addr} {n2 c2 : Nat} (h2 : RepS w F a2 n2 c2 s.idx.posts) {a3 : Option Addr} {n3 c3 : Nat} (h3 : RepS w F a3 n3 c3 s.parts) {a4 : Option Addr} {n4 c4 : Nat} (h4 : RepS w F a4 n4 c4 s.mem) (p0 : NmI s.idx.names) (p1 : NsD s.idx.names) (p2 : StoSz s) : Calls Tryz.prog 21 [.agg #[.slice a1 n1 c1, .slice a2 n2 c2, .slice a3 n3 c3, .slice a4 n4 c4]].toArray w (rets fun rv w' => (∃ (a0 : Option Addr) (n0 c0 : Nat) (a1 : Option Addr) (n1 c1 : Nat) (a2 : Option Addr) (n2 c2 : Nat) (r3 n3 c3 : Nat), rv = .agg #[.slice a0 n0 c0, .slice a1 n1 c1, .slice a2 n2 c2, .slice (some ⟨r3, 0, none⟩) n3 c3] ∧ RepS w' (nin (ge w.heap.size) [r3]) a0 n0 c0 ((((copyS s)).idx).names) ∧ RepS w' (nin (ge w.heap.size) [r3]) a1 n1 c1 ((((copyS s)).idx).posts) ∧ RepS w' (nin (ge w.heap.size) [r3]) a2 n2 c2 (((copyS s)).parts) ∧ Own w' r3 62 (nin (ge w.heap.size) [r3]) n3 c3 (((copyS s)).mem) ∧ w.heap.size ≤ r3) ∧ Ext w w') := by
 refine goT Tryz.func21 ?_
 obtain ⟨rfl, dx, h1⟩ := h1.tp
 obtain ⟨rfl, dy, h2⟩ := h2.tp
 obtain ⟨rfl, dz, h3⟩ := h3.tp
 obtain ⟨rfl, dA, h4⟩ := h4.tp
 refine .s <| .g <| .np 30 [.slice a1 s.idx.names.length c1, .slice a2 s.idx.posts.length c2, .slice a3 s.parts.length c3, .slice a4 s.mem.length c4] fun W d0 bB aP J cA => ?_
 replace ⟨h1, h3, h4⟩ := (sn [] aP bB).g3 h1 h3 h4
 have C := aP
 clear aP cA bB
 refine .np 30 [.slice none 0 0, .slice none 0 0, .slice none 0 0, .slice none 0 0] fun Z cB aL bC E cC => ?_
 have dB := nb_new aL J.lt
 have dC := C.cn aL
 replace ⟨h1, h3, h4, J, C⟩ := (sn [W] bC aL).g5 h1 h3 h4 J C
 clear bC cC aL
 refine .d <| .s ?_
 replace h1 := h1.into
 replace h3 := h3.into
 replace h4 := h4.into
 have aQ : Gb (W + 1) cB.heap.size := J.lt
 refine .gd (mtb [] cB.heap.size) 10 fun d3 bD => ?_
 replace ⟨h1, h3, h4, J, E, C⟩ := (se [Z, W] bD).g6 h1 h3 h4 J E C
 clear bD
 refine .r [0, 1] <| .lb 2 J (nS_of all_nil aQ) <| .r [4] <| .lb 5 J (nS_of all_nil aQ) <| .r [8] <| .lb 9 J (nS_of all_nil aQ) <| .tw 3 7 ?_ ?_
 · refine .cl (fun bT aR => c_impl_indexOf s.idx.names (h1.ta.ext aR) p0 p1 (w := bT) (F := all)) ?_
   intro bT aR
   replace ⟨h1, h3, h4, J, E, C⟩ := (se [Z, W] aR).g6 h1 h3 h4 J E C
   rintro d4 d5 ⟨⟨_, rfl, ⟨bv, d6, bw, bz, d7, bA, rfl, O, V⟩⟩, aS⟩
   have aT := al2 E.lt J.lt
   have bE : Gb w.heap.size bT.heap.size := C.size
   have hkeep_ := aS
   replace ⟨h1, h3, h4, J, E, C⟩ := (se [Z, W] aS).g6 h1 h3 h4 J E C
   clear aS
   refine ⟨Ext.chg hkeep_, ?_⟩
   have O := O.fr aT bE
   have dD := O.max
   have V := V.fr aT bE
   have dE := V.max
   clear aT
   have cD := O.len
   subst cD
   have cE := V.len
   subst cE
   refine .tw 6 7 ?_ ?_
   · refine .cl (fun bU aU => c_impl_cloneParts s.parts (h3.ta.ext aU) (by have := p2.2.1; omega) p2.2.2.1 (w := bU) (F := all)) ?_
     intro bU aU
     replace ⟨h1, h3, h4, J, E, O, V, C⟩ := (se [Z, W] aU).g8 h1 h3 h4 J E O V C
     rintro d8 d9 ⟨⟨aB, cF, cG, rfl, ab, aC⟩, aV⟩
     have bF := al2 E.lt J.lt
     have cH : Gb w.heap.size bU.heap.size := C.size
     have hkeep_ := aV
     have dF := nb_ge aC J.lt
     have dG := nb_ge aC E.lt
     have cI := gb_ge aC C.size
     replace ⟨h1, h3, h4, J, E, O, V, C⟩ := (sz [Z, W] aV aC).g8 h1 h3 h4 J E O V C
     clear aV aC
     refine ⟨Ext.chg hkeep_, ?_⟩
     replace ab := Own.take (s0 := w.heap.size) (M := [Z, W]) ab bF cH
     have dH := ab.len; have dI := ab.max
     clear bF
     refine .go 7 <| .ns 0 62 [] fun ea bG => ?_
     replace ⟨h1, h3, h4, J, E, O, V, ab, C⟩ := (se [aB, Z, W] bG).g9 h1 h3 h4 J E O V ab C
     clear bG
     intro aW cU ax bH cJ cK
     have dJ := nb_new ax J.lt
     have cL := nb_new ax E.lt
     have bV := nb_new ax ab.lt
     have bW := gb_new ax C.size
     have cV := C.cn ax
     replace ⟨h1, h3, h4, J, E, O, V, ab, C⟩ := (sn [aB, Z, W] bH ax).g9 h1 h3 h4 J E O V ab C
     clear bH cK ax
     have aD : Own (α := Smp) cU aW 62 (nin (ge w.heap.size) [aW, aB, Z, W]) 0 0 [] := Own.nil' cJ
     refine .d fun dK aX => ?_
     replace ⟨h1, h3, h4, J, E, O, V, ab, aD, C⟩ := (se [aW, aB, Z, W] aX).g10 h1 h3 h4 J E O V ab aD C
     clear aX
     replace h1 := h1.outof
     replace h3 := h3.outof
     replace h4 := h4.outof
     refine RG.appendF (T := 28) (ty := 28) flat_smp aD h4 (by kernel_rfl) (by kernel_rfl) (fun b h e => h.2 (e ▸ (.head _))) (by have := p2.2.2.2; omega) fun aM bI dL ah am aY => ?_
     have cW := nb_or am cL E.lt
     have cX := nb_or am bV ab.lt
     have bX := gb_or am bW C.size
     replace ⟨h1, h3, h4, J, E, O, V, ab, C⟩ := (sa [aW, aB, Z, W] aY am).g9 h1 h3 h4 J E O V ab C
     clear aY
     replace ah := ah.rn aW
     clear am
     have cY := ah.len; have cZ := ah.max
     refine .r 1 <| .sc [.slice bv (((idxOf s.idx.names).names).length) bw, .slice bz (((idxOf s.idx.names).posts).length) bA, vS aB cF cG, vS aM (0 + s.mem.length) bI] E fun cM aZ bY bZ => ?_
     replace ⟨h1, h3, h4, J, O, V, ab, ah, C⟩ := (so [aM, aB, Z, W] aZ).g9 h1 h3 h4 J O V ab ah C
     clear aZ bZ
     refine .d ?_
     have cN := ab.sl cI
     replace ⟨h1, h3, h4, O, V, ah⟩ := (sd cM [aM, aB, Z, W] aB).g6 h1 h3 h4 O V ah
     exact .rb Tryz.func21 Tryz.results21 bY ⟨⟨bv, ((idxOf s.idx.names).names).length, bw, bz, ((idxOf s.idx.names).posts).length, bA, (some ⟨aB, 0, none⟩), cF, cG, aM, (0 + s.mem.length), bI, rfl, ((RepS.lessM O (all_cons (.head _) all_nil)).eqx (by rfl)), ((RepS.lessM V (all_cons (.head _) all_nil)).eqx (by rfl)), ((RepS.lessM cN (all_cons (.head _) all_nil)).eqx (by rfl)), ((Own.lessM ah (all_cons (.head _) all_nil)).eqx (by rfl)), bX⟩, C⟩
   refine .ns 0 62 [] fun dM ba => ?_
   replace ⟨h1, h3, h4, J, E, O, V, C⟩ := (se [Z, W] ba).g8 h1 h3 h4 J E O V C
   clear ba
   intro aw cO ar bb b0 b6
   have c7 := nb_new ar J.lt
   have b7 := nb_new ar E.lt
   have b8 := gb_new ar C.size
   have c8 := C.cn ar
   replace ⟨h1, h3, h4, J, E, O, V, C⟩ := (sn [Z, W] bb ar).g8 h1 h3 h4 J E O V C
   clear bb b6 ar
   have ai : Own (α := Smp) cO aw 62 (nin (ge w.heap.size) [aw, Z, W]) 0 0 [] := Own.nil' b0
   refine .go 6 <| .cl (fun bc aE => c_impl_cloneParts s.parts (h3.ta.ext aE) (by have := p2.2.1; omega) p2.2.2.1 (w := bc) (F := all)) ?_
   intro bc aE
   replace ⟨h1, h3, h4, J, E, O, V, ai, C⟩ := (se [aw, Z, W] aE).g9 h1 h3 h4 J E O V ai C
   rintro dN dO ⟨⟨ay, bJ, bK, rfl, af, au⟩, aF⟩
   have bd := al3 ai.lt E.lt J.lt
   have b9 : Gb w.heap.size bc.heap.size := C.size
   have hkeep_ := aF
   have c9 := nb_ge au J.lt
   have da := nb_ge au E.lt
   have cd := nb_ge au ai.lt
   have ce := gb_ge au C.size
   replace ⟨h1, h3, h4, J, E, O, V, ai, C⟩ := (sz [aw, Z, W] aF au).g9 h1 h3 h4 J E O V ai C
   clear aF au
   refine ⟨Ext.chg hkeep_, ?_⟩
   replace af := Own.take (s0 := w.heap.size) (M := [aw, Z, W]) af bd b9
   have db := af.len; have dd := af.max
   clear bd
   refine .d fun dP bg => ?_
   replace ⟨h1, h3, h4, J, E, O, V, ai, af, C⟩ := (se [ay, aw, Z, W] bg).g10 h1 h3 h4 J E O V ai af C
   clear bg
   replace h1 := h1.outof
   replace h3 := h3.outof
   replace h4 := h4.outof
   refine RG.appendF (T := 28) (ty := 28) flat_smp ai h4 (by kernel_rfl) (by kernel_rfl) (fun b h e => h.2 (e ▸ (.tail _ (.head _)))) (by have := p2.2.2.2; omega) fun aN bL dQ aj ao bh => ?_
   have de := nb_or ao b7 E.lt
   have df := nb_or ao (Nb.symm cd) af.lt
   have cg := gb_or ao b8 C.size
   replace ⟨h1, h3, h4, J, E, O, V, af, C⟩ := (sa [ay, aw, Z, W] bh ao).g9 h1 h3 h4 J E O V af C
   clear bh
   replace aj := aj.rn aw
   clear ao
   have dg := aj.len; have dh := aj.max
   refine .r 1 <| .sc [.slice bv (((idxOf s.idx.names).names).length) bw, .slice bz (((idxOf s.idx.names).posts).length) bA, vS ay bJ bK, vS aN (0 + s.mem.length) bL] E fun cP bi ci cj => ?_
   replace ⟨h1, h3, h4, J, O, V, aj, af, C⟩ := (so [ay, aN, Z, W] bi).g9 h1 h3 h4 J O V aj af C
   clear bi cj
   refine .d ?_
   have cQ := af.sl ce
   replace ⟨h1, h3, h4, O, V, aj⟩ := (sd cP [ay, aN, Z, W] ay).g6 h1 h3 h4 O V aj
   exact .rb Tryz.func21 Tryz.results21 ci ⟨⟨bv, ((idxOf s.idx.names).names).length, bw, bz, ((idxOf s.idx.names).posts).length, bA, (some ⟨ay, 0, none⟩), bJ, bK, aN, (0 + s.mem.length), bL, rfl, ((RepS.lessM O (all_cons (.head _) all_nil)).eqx (by rfl)), ((RepS.lessM V (all_cons (.head _) all_nil)).eqx (by rfl)), ((RepS.lessM cQ (all_cons (.head _) all_nil)).eqx (by rfl)), ((Own.lessM aj (all_cons (.head _) all_nil)).eqx (by rfl)), cg⟩, C⟩
 refine .ns 0 62 [] fun dR bj => ?_
 replace ⟨h1, h3, h4, J, E, C⟩ := (se [Z, W] bj).g6 h1 h3 h4 J E C
 clear bj
 intro al cR az bk ck cm
 have co := nb_new az E.lt
 have cp := gb_new az C.size
 have di := C.cn az
 replace ⟨h1, h3, h4, J, E, C⟩ := (sn [Z, W] bk az).g6 h1 h3 h4 J E C
 clear bk cm az
 have aa : Own (α := Smp) cR al 62 (nin (ge w.heap.size) [al, Z, W]) 0 0 [] := Own.nil' ck
 refine .go 3 <| .cl (fun bm aG => c_impl_indexOf s.idx.names (h1.ta.ext aG) p0 p1 (w := bm) (F := all)) ?_
 intro bm aG
 replace ⟨h3, h4, J, E, aa, C⟩ := (se [al, Z, W] aG).g6 h3 h4 J E aa C
 rintro dS dT ⟨⟨_, rfl, ⟨bM, dU, bN, bO, dV, bP, rfl, ac, ae⟩⟩, aH⟩
 have aI := al3 aa.lt E.lt J.lt
 have bn : Gb w.heap.size bm.heap.size := C.size
 have hkeep_ := aH
 replace ⟨h3, h4, J, E, aa, C⟩ := (se [al, Z, W] aH).g6 h3 h4 J E aa C
 clear aH
 refine ⟨Ext.chg hkeep_, ?_⟩
 have ac := ac.fr aI bn
 have dj := ac.max
 have ae := ae.fr aI bn
 have dk := ae.max
 clear aI
 have cq := ac.len
 subst cq
 have cr := ae.len
 subst cr
 refine .go 6 <| .cl (fun bo aJ => c_impl_cloneParts s.parts (h3.ta.ext aJ) (by have := p2.2.1; omega) p2.2.2.1 (w := bo) (F := all)) ?_
 intro bo aJ
 replace ⟨h4, J, E, aa, ac, ae, C⟩ := (se [al, Z, W] aJ).g7 h4 J E aa ac ae C
 rintro dW dX ⟨⟨aA, bQ, bR, rfl, ag, av⟩, aK⟩
 have bq := al3 aa.lt E.lt J.lt
 have cu : Gb w.heap.size bo.heap.size := C.size
 have hkeep_ := aK
 have dm := nb_ge av J.lt
 have dp := nb_ge av E.lt
 have cv := nb_ge av aa.lt
 have cw := gb_ge av C.size
 replace ⟨h4, E, aa, ac, ae, C⟩ := (sz [al, Z, W] aK av).g6 h4 E aa ac ae C
 clear aK av
 refine ⟨Ext.chg hkeep_, ?_⟩
 replace ag := Own.take (s0 := w.heap.size) (M := [al, Z, W]) ag bq cu
 have dq := ag.len; have dr := ag.max
 clear bq
 refine .d fun dY br => ?_
 replace ⟨h4, E, aa, ac, ae, ag, C⟩ := (se [aA, al, Z, W] br).g7 h4 E aa ac ae ag C
 clear br
 replace h4 := h4.outof
 refine RG.appendF (T := 28) (ty := 28) flat_smp aa h4 (by kernel_rfl) (by kernel_rfl) (fun b h e => h.2 (e ▸ (.tail _ (.head _)))) (by have := p2.2.2.2; omega) fun aO bS dZ ak aq bt => ?_
 have dt := nb_or aq co E.lt
 have du := nb_or aq (Nb.symm cv) ag.lt
 have cx := gb_or aq cp C.size
 replace ⟨E, ac, ae, ag, C⟩ := (sa [aA, al, Z, W] bt aq).g5 E ac ae ag C
 clear bt
 replace ak := ak.rn al
 clear aq
 have dv := ak.len; have dw := ak.max
 refine .r 1 <| .sc [.slice bM (((idxOf s.idx.names).names).length) bN, .slice bO (((idxOf s.idx.names).posts).length) bP, vS aA bQ bR, vS aO (0 + s.mem.length) bS] E fun cS bu cy cz => ?_
 replace ⟨ak, ac, ae, ag, C⟩ := (so [aA, aO, Z, W] bu).g5 ak ac ae ag C
 clear bu cz
 refine .d ?_
 have cT := ag.sl cw
 replace ⟨ak, ac, ae⟩ := (sd cS [aA, aO, Z, W] aA).g3 ak ac ae
 exact .rb Tryz.func21 Tryz.results21 cy ⟨⟨bM, ((idxOf s.idx.names).names).length, bN, bO, ((idxOf s.idx.names).posts).length, bP, (some ⟨aA, 0, none⟩), bQ, bR, aO, (0 + s.mem.length), bS, rfl, ((RepS.lessM ac (all_cons (.head _) all_nil)).eqx (by rfl)), ((RepS.lessM ae (all_cons (.head _) all_nil)).eqx (by rfl)), ((RepS.lessM cT (all_cons (.head _) all_nil)).eqx (by rfl)), ((Own.lessM ak (all_cons (.head _) all_nil)).eqx (by rfl)), cx⟩, C⟩
theorem c_impl_StoreOk (s : Sto) {w : World} {F : Nat → Prop} {a1 : Option Addr} {n1 c1 : Nat} (h1 : RepS w F a1 n1 c1 s.idx.names) {a2 : Option Addr} {n2 c2 : Nat} (h2 : RepS w F a2 n2 c2 s.idx.posts) {a3 : Option Addr} {n3 c3 : Nat} (h3 : RepS w F a3 n3 c3 s.parts) {a4 : Option Addr} {n4 c4 : Nat} (h4 : RepS w F a4 n4 c4 s.mem) (p0 : SD s) : Calls Tryz.prog 19 [.agg #[.slice a1 n1 c1, .slice a2 n2 c2, .slice a3 n3 c3, .slice a4 n4 c4]].toArray w (rets fun rv w' => rv = .bool (storeOk s) ∧ Ext w w') := by
 refine goT Tryz.func19 ?_
 obtain ⟨rfl, bU, h1⟩ := h1.tp
 obtain ⟨rfl, bV, h2⟩ := h2.tp
 obtain ⟨rfl, bW, h3⟩ := h3.tp
 obtain ⟨rfl, bX, h4⟩ := h4.tp
 refine .s <| .g <| .np 30 [.slice a1 s.idx.names.length c1, .slice a2 s.idx.posts.length c2, .slice a3 s.parts.length c3, .slice a4 s.mem.length c4] fun J bA aG am E aX => ?_
 replace ⟨h1, h2, h3, h4⟩ := (sn [] am aG).g4 h1 h2 h3 h4
 have C := am
 clear am aX aG
 refine .r 1 <| .d <| .s <| .s <| .g <| .r 1 <| .ln E <| .cl (c_impl_IndexOk s.idx h1.ta h2.ta p0.ix p0.nd (w := bA) (F := all)) ?_
 rintro cw aY ⟨rfl, aH⟩
 replace ⟨h1, h2, h3, h4, E, C⟩ := (se [J] aH).g6 h1 h2 h3 h4 E C
 clear aH
 refine .r 3 <| .lb E <| .r 1 <| .bp ((s.parts.length : Int) > 6) (fun aZ => .r 7 <| .d <| .ct <| .s <| .g <| .r 1 <| .d <| .rt Tryz.func19 Tryz.results19 (.bool false) ⟨(congrArg Value.bool (by symm; first | exact storeOk_1 (by omega) | exact storeOk_2 (allNo (by assumption) (by assumption) (by first | exact partIn_1 (by assumption) | exact partIn_2 (by assumption) | exact partIn_3 (by assumption) (by assumption) (by assumption))) | exact storeOk_3 (allNo (by assumption) (by assumption) (by simp [memOk, *])) | exact storeOk_4 (cntNo (by assumption) (by omega) (by omega) (by omega)))), C⟩) fun aZ => .r 3 <| .lb E <| .r 1 <| .bp ((s.mem.length : Int) > 20) (fun ba => .r 1 <| .d <| .ct <| .s <| .g <| .r 1 <| .d <| .rt Tryz.func19 Tryz.results19 (.bool false) ⟨(congrArg Value.bool (by symm; first | exact storeOk_1 (by omega) | exact storeOk_2 (allNo (by assumption) (by assumption) (by first | exact partIn_1 (by assumption) | exact partIn_2 (by assumption) | exact partIn_3 (by assumption) (by assumption) (by assumption))) | exact storeOk_3 (allNo (by assumption) (by assumption) (by simp [memOk, *])) | exact storeOk_4 (cntNo (by assumption) (by omega) (by omega) (by omega)))), C⟩) fun ba => .r 1 <| .d <| .cf <| .sk <| .s <| .g <| .r 2 <| .lb E <| .r 2 <| .d <| .s <| .s <| .g <| .r 1 <| .lb E <| .r 2 <| .d <| .b 0 <| T.loop (X := Nat) 0 (fun k => [(1, .pointer (some ⟨J, 0, none⟩)), (3, vI (s.idx.names.length : Int)), (30, .slice a3 s.parts.length c3), (31, vI (s.parts.length : Int)), (32, vI (k : Int))]) (fun k ao => Chg (ins []) aY ao ∧ (k ≤ s.parts.length) ∧ ((s.parts.drop k).all (fun p => partIn p s.idx.names.length) = s.parts.all (fun p => partIn p s.idx.names.length))) (fun k => s.parts.length - k) (by kernel_rfl) ⟨by kernel_rfl, by kernel_rfl, by kernel_rfl, by kernel_rfl, by kernel_rfl, trivial⟩ ⟨Chg.refl _ _, (by simp), (by simp)⟩ ?_
 rintro k cx ao ⟨O, bY, bZ⟩ aq
 have aI : Mv [J] [J] aY ao := Mv.inl O all_nil (all_cons (.inl (.head _)) all_nil)
 replace ⟨h1, h2, h3, h4, E, C⟩ := (sp aI O).g6 h1 h2 h3 h4 E C
 clear aI
 refine .s <| .g <| .bp ((k : Int) < (s.parts.length : Int)) (fun bb => ?_) (fun bb => ?_)
 · refine .d <| .s <| .ct <| .sk <| .s <| .b 1 <| .s <| .g ?_
   have bc : k < s.parts.length := (by omega)
   refine .ix k 2 h3 bc ?_
   obtain ⟨ac, ar⟩ : ∃ y, s.parts[k]? = some y := ⟨_, List.getElem?_eq_getElem (by omega)⟩
   have b0 := drop_at ar; have bz := List.mem_of_getElem? ar
   obtain ⟨_, ⟨bB, cy, bC, bD, cz, bE, rfl, aa, ai⟩, bd⟩ := h3.elem k ac ar
   have bg := aa.len
   subst bg
   have b6 := aa.max
   have bh := ai.len
   subst bh
   have b7 := ai.max
   refine .lg 0 bd <| .np 68 [.slice none 0 0, .slice none 0 0] fun aF cA ae aJ bi bj => ?_
   have b8 := nb_new ae E.lt
   have b9 := C.cn ae
   have cd := O.cn ae
   replace ⟨h1, h2, h3, h4, E, aa, ai, C, O⟩ := (sn [J] aJ ae).g9 h1 h2 h3 h4 E aa ai C O
   clear aJ bj ae
   refine .sc [.slice bB ac.ids.length bC, .slice bD ac.blocks.length bE] bi fun bF aK af bk => ?_
   replace ⟨h1, h2, h3, h4, E, aa, ai, C, O⟩ := (so [aF, J] aK).g9 h1 h2 h3 h4 E aa ai C O
   clear aK bk
   refine .d <| .s <| .g <| .ln af <| .cl (c_impl_PartOk ac aa.ta ai.ta (w := bF) (F := all)) ?_
   rintro cB bG ⟨rfl, aL⟩
   replace ⟨h1, h2, h3, h4, E, aa, af, C, O⟩ := (se [aF, J] aL).g9 h1 h2 h3 h4 E aa af C O
   clear aL
   cases ce : (partOk ac)
   · exact .r 14 <| .d <| .ct <| .s <| .g <| .r 1 <| .d <| .rt Tryz.func19 Tryz.results19 (.bool false) ⟨(congrArg Value.bool (by symm; first | exact storeOk_1 (by omega) | exact storeOk_2 (allNo (by assumption) (by assumption) (by first | exact partIn_1 (by assumption) | exact partIn_2 (by assumption) | exact partIn_3 (by assumption) (by assumption) (by assumption))) | exact storeOk_3 (allNo (by assumption) (by assumption) (by simp [memOk, *])) | exact storeOk_4 (cntNo (by assumption) (by omega) (by omega) (by omega)))), C⟩
   refine .r 3 <| .lb af <| .r 1 <| .eq (ac.ids.length : Int) 0 (fun bm => .r 8 <| .d <| .ct <| .s <| .g <| .r 1 <| .d <| .rt Tryz.func19 Tryz.results19 (.bool false) ⟨(congrArg Value.bool (by symm; first | exact storeOk_1 (by omega) | exact storeOk_2 (allNo (by assumption) (by assumption) (by first | exact partIn_1 (by assumption) | exact partIn_2 (by assumption) | exact partIn_3 (by assumption) (by assumption) (by assumption))) | exact storeOk_3 (allNo (by assumption) (by assumption) (by simp [memOk, *])) | exact storeOk_4 (cntNo (by assumption) (by omega) (by omega) (by omega)))), C⟩) fun bm => .r 3 <| .lb af <| .cl (c_slices_Max_int_int ac.ids aa.ta (by omega) (w := bG) (F := all)) ?_
   rintro cC bn ⟨rfl, aM⟩
   replace ⟨h1, h2, h3, h4, E, C, O⟩ := (se [aF, J] aM).g7 h1 h2 h3 h4 E C O
   clear aM
   refine .r 1 <| .bp (maxOf ac.ids > (s.idx.names.length : Int)) (fun bo => .r 1 <| .d <| .ct <| .s <| .g <| .r 1 <| .d <| .rt Tryz.func19 Tryz.results19 (.bool false) ⟨(congrArg Value.bool (by symm; first | exact storeOk_1 (by omega) | exact storeOk_2 (allNo (by assumption) (by assumption) (by first | exact partIn_1 (by assumption) | exact partIn_2 (by assumption) | exact partIn_3 (by assumption) (by assumption) (by assumption))) | exact storeOk_3 (allNo (by assumption) (by assumption) (by simp [memOk, *])) | exact storeOk_4 (cntNo (by assumption) (by omega) (by omega) (by omega)))), C⟩) fun bo => .r 1 <| .d <| .cf <| .sk <| .ib 1 <| .g <| RG.int ((k : Int) + 1) (by kernel_rfl) (by have := p0.nm.len; omega) <| .r 1 <| .d ?_
   have bq : Mv [aF, J] [J] bn bn := Mv.less (all_cons (.tail _ (.head _)) all_nil)
   replace ⟨h1, h2, h3, h4⟩ := (sp bq (Chg.refl nil _)).g4 h1 h2 h3 h4
   exact aq (k + 1) _ _ ⟨by kernel_rfl, by kernel_rfl, by kernel_rfl, by kernel_rfl, by kernel_rfl, trivial⟩ ⟨O, (by omega), (by exact allStep (by assumption) (by assumption) (partIn_4 (by assumption) (by assumption) (by assumption)))⟩ (by first | omega | (simp only []; omega))
 refine .d <| .s <| .cf <| .x 0 rfl <| .s <| .s <| .g <| .r 1 <| .lb E <| .r 2 <| .d <| .b 2 <| T.loop (X := Nat) 0 (fun k => [(1, .pointer (some ⟨J, 0, none⟩)), (3, vI (s.idx.names.length : Int)), (54, .slice a4 s.mem.length c4), (55, vI (s.mem.length : Int)), (56, vI (k : Int))]) (fun k au => Chg (ins []) ao au ∧ (k ≤ s.mem.length) ∧ (s.parts.all (fun p => partIn p s.idx.names.length) = true) ∧ ((s.mem.drop k).all (memOk s.idx.names.length) = s.mem.all (memOk s.idx.names.length))) (fun k => s.mem.length - k) (by kernel_rfl) ⟨by kernel_rfl, by kernel_rfl, by kernel_rfl, by kernel_rfl, by kernel_rfl, trivial⟩ ⟨Chg.refl _ _, (by simp), (by exact allEnd (by assumption) (by omega)), (by simp)⟩ ?_
 rintro k cD au ⟨V, cg, ci, cj⟩ av
 have aN : Mv [J] [J] ao au := Mv.inl V all_nil (all_cons (.inl (.head _)) all_nil)
 replace ⟨h1, h2, h3, h4, E, C⟩ := (sp aN V).g6 h1 h2 h3 h4 E C
 clear aN
 refine .s <| .g <| .bp ((k : Int) < (s.mem.length : Int)) (fun br => ?_) (fun br => ?_)
 · refine .d <| .s <| .ct <| .sk <| .s <| .b 3 <| .s <| .g ?_
   have bt : k < s.mem.length := (by omega)
   refine .ix k 3 h4 bt ?_
   obtain ⟨ag, aj⟩ : ∃ y, s.mem[k]? = some y := ⟨_, List.getElem?_eq_getElem (by omega)⟩
   have bH := drop_at aj; have bu := List.mem_of_getElem? aj
   obtain ⟨_, rfl, aP⟩ := h4.elem k ag aj
   refine .lg 0 aP <| .np 62 [vI 0, vI 0, vI 0] fun ak ck W aw aQ aR => ?_
   have bI := nb_new W E.lt
   have bJ := C.cn W
   have bK := V.cn W
   replace ⟨h1, h2, h3, h4, E, C, V⟩ := (sn [J] aw W).g7 h1 h2 h3 h4 E C V
   clear aw aR W
   refine .sc [vI ag.id, vI ag.row.t, vI ag.row.v] aQ fun bv ax ab aS => ?_
   replace ⟨h1, h2, h3, h4, E, C, V⟩ := (so [ak, J] ax).g7 h1 h2 h3 h4 E C V
   clear ax aS
   refine .d <| .s <| .g <| .r 1 <| .lb ab <| .r 1 <| .cl (c_impl_within ag.id 1 (s.idx.names.length : Int) (w := bv) (F := all)) ?_
   rintro cm bw ⟨rfl, ay⟩
   replace ⟨h1, h2, h3, h4, E, ab, C, V⟩ := (se [ak, J] ay).g8 h1 h2 h3 h4 E ab C V
   clear ay
   cases az : (inR ag.id 1 (s.idx.names.length : Int))
   · have bL := inR_f az
     exact .r 7 <| .d <| .ct <| .s <| .g <| .r 1 <| .d <| .rt Tryz.func19 Tryz.results19 (.bool false) ⟨(congrArg Value.bool (by symm; first | exact storeOk_1 (by omega) | exact storeOk_2 (allNo (by assumption) (by assumption) (by first | exact partIn_1 (by assumption) | exact partIn_2 (by assumption) | exact partIn_3 (by assumption) (by assumption) (by assumption))) | exact storeOk_3 (allNo (by assumption) (by assumption) (by simp [memOk, *])) | exact storeOk_4 (cntNo (by assumption) (by omega) (by omega) (by omega)))), C⟩
   have bM := inR_t az
   refine .r 3 <| .ln ab <| .cl (c_impl_rowOk ag.row (w := bw) (F := all)) ?_
   rintro co aO ⟨rfl, aA⟩
   replace ⟨h1, h2, h3, h4, E, C, V⟩ := (se [ak, J] aA).g7 h1 h2 h3 h4 E C V
   clear aA
   cases bN : (rowOk ag.row)
   · exact .r 2 <| .d <| .ct <| .s <| .g <| .r 1 <| .d <| .rt Tryz.func19 Tryz.results19 (.bool false) ⟨(congrArg Value.bool (by symm; first | exact storeOk_1 (by omega) | exact storeOk_2 (allNo (by assumption) (by assumption) (by first | exact partIn_1 (by assumption) | exact partIn_2 (by assumption) | exact partIn_3 (by assumption) (by assumption) (by assumption))) | exact storeOk_3 (allNo (by assumption) (by assumption) (by simp [memOk, *])) | exact storeOk_4 (cntNo (by assumption) (by omega) (by omega) (by omega)))), C⟩
   refine .r 2 <| .d <| .cf <| .sk <| .ib 3 <| .g <| RG.int ((k : Int) + 1) (by kernel_rfl) (by have := p0.nm.len; omega) <| .r 1 <| .d ?_
   have aT : Mv [ak, J] [J] aO aO := Mv.less (all_cons (.tail _ (.head _)) all_nil)
   replace ⟨h1, h2, h3, h4⟩ := (sp aT (Chg.refl nil _)).g4 h1 h2 h3 h4
   exact av (k + 1) _ _ ⟨by kernel_rfl, by kernel_rfl, by kernel_rfl, by kernel_rfl, by kernel_rfl, trivial⟩ ⟨V, (by omega), (by assumption), (by exact allStep (by assumption) (by assumption) (by simp only [memOk, *]; rfl))⟩ (by first | omega | (simp only []; omega))
 refine .d <| .s <| .cf <| .x 2 rfl <| .s <| .s <| .g <| .r 1 <| .d <| .b 4 <| T.loop (X := Nat) 1 (fun k => [(1, .pointer (some ⟨J, 0, none⟩)), (3, vI (s.idx.names.length : Int)), (8, vI (k : Int))]) (fun k ah => Chg (ins []) au ah ∧ (1 ≤ k) ∧ (k ≤ s.idx.names.length + 1) ∧ (s.parts.all (fun p => partIn p s.idx.names.length) = true) ∧ (s.mem.all (memOk s.idx.names.length) = true) ∧ (((List.range s.idx.names.length).drop (k - 1)).all (cntOk s) = (List.range s.idx.names.length).all (cntOk s))) (fun k => s.idx.names.length + 1 - k) (by kernel_rfl) ⟨by kernel_rfl, by kernel_rfl, by kernel_rfl, trivial⟩ ⟨Chg.refl _ _, (by omega), (by omega), (by assumption), (by exact allEnd (by assumption) (by omega)), (by rfl)⟩ ?_
 rintro k cp ah ⟨Z, bO, bP, bQ, bR, bS⟩ al
 have aB : Mv [J] [J] au ah := Mv.inl Z all_nil (all_cons (.inl (.head _)) all_nil)
 replace ⟨h1, h2, h3, h4, E, C⟩ := (sp aB Z).g6 h1 h2 h3 h4 E C
 clear aB
 refine .s <| .s <| .g <| .r 2 <| .bp ((k : Int) ≤ (s.idx.names.length : Int)) (fun aU => ?_) (fun aU => .d <| .cf <| .x 4 rfl <| .s <| .g <| .r 1 <| .d <| .rt Tryz.func19 Tryz.results19 (.bool true) ⟨(congrArg Value.bool (by symm; exact storeOk_5 (by omega) (by omega) (by assumption) (by assumption) (cntEnd (by assumption) (by omega)))), C⟩)
 refine .d <| .ct <| .sk <| .s <| .b 5 <| .s <| .g <| .ln E <| .r 1 <| .cl (c_impl_Store_rows s (k : Int) h1.ta h2.ta h3.ta h4.ta (StoK.pt p0 (by assumption)) (StoK.rw (by assumption)) (by have := p0.np; omega) (by have := p0.nm2; omega) (w := ah) (F := all)) ?_
 rintro cq cr ⟨⟨cu, cv, rfl, aC⟩, aD⟩
 have aE := al1 E.lt
 have aV : Gb w.heap.size ah.heap.size := C.size
 replace ⟨C, Z⟩ := (se [] aD).g2 C Z
 clear aD
 have aC := aC.fr aE aV
 have bT := aC.max
 clear aE
 exact .r 1 <| .bp ((((rowsOf s (k : Int)).length) : Int) > 24) (fun aW => .d <| .ct <| .s <| .g <| .r 1 <| .d <| .rt Tryz.func19 Tryz.results19 (.bool false) ⟨(congrArg Value.bool (by symm; first | exact storeOk_1 (by omega) | exact storeOk_2 (allNo (by assumption) (by assumption) (by first | exact partIn_1 (by assumption) | exact partIn_2 (by assumption) | exact partIn_3 (by assumption) (by assumption) (by assumption))) | exact storeOk_3 (allNo (by assumption) (by assumption) (by simp [memOk, *])) | exact storeOk_4 (cntNo (by assumption) (by omega) (by omega) (by omega)))), C⟩) fun aW => .d <| .cf <| .sk <| .ib 5 <| .g <| .r 1 <| RG.int ((k : Int) + 1) (by kernel_rfl) (by have := p0.nm.len; omega) <| .r 1 <| .d <| al (k + 1) _ _ ⟨by kernel_rfl, by kernel_rfl, by kernel_rfl, trivial⟩ ⟨Z, (by omega), (by omega), (by assumption), (by assumption), (by exact cntStep (by assumption) (by omega) (by omega) (by omega))⟩ (by first | omega | (simp only []; omega))
theorem c_impl_StoreAdd (s : Sto) (n : List Tag) (r : Row) {w : World} {F : Nat → Prop} {a1 : Option Addr} {n1 c1 : Nat} (h1 : RepS w F a1 n1 c1 s.idx.names) {a2 : Option Addr} {n2 c2 : Nat} (h2 : RepS w F a2 n2 c2 s.idx.posts) {a3 : Option Addr} {n3 c3 : Nat} (h3 : RepS w F a3 n3 c3 s.parts) {a4 : Option Addr} {n4 c4 : Nat} (h4 : RepS w F a4 n4 c4 s.mem) {a5 : Option Addr} {n5 c5 : Nat} (h5 : RepS w F a5 n5 c5 n) (p0 : SD s) (p1 : NmD n) : Calls Tryz.prog 6 [.agg #[.slice a1 n1 c1, .slice a2 n2 c2, .slice a3 n3 c3, .slice a4 n4 c4], .slice a5 n5 c5, .agg #[.int .i64 r.t, .int .i64 r.v]].toArray w (rets fun rv w' => (∃ v0, rv = .tuple #[v0, .bool ((addP s n r).2)] ∧ VS (fo F w.heap.size) w' ((addP s n r).1 : Sto) v0) ∧ Ext w w') := by
 refine goT Tryz.func6 ?_
 obtain ⟨rfl, ei, h1⟩ := h1.tp
 obtain ⟨rfl, ej, h2⟩ := h2.tp
 obtain ⟨rfl, ek, h3⟩ := h3.tp
 obtain ⟨rfl, em, h4⟩ := h4.tp
 obtain ⟨rfl, en, h5⟩ := h5.tp
 refine .s <| .g <| .np 30 [.slice a1 s.idx.names.length c1, .slice a2 s.idx.posts.length c2, .slice a3 s.parts.length c3, .slice a4 s.mem.length c4] fun aa eT bI bt E cS => ?_
 replace ⟨h1, h2, h3, h4, h5⟩ := (sn [] bt bI).g5 h1 h2 h3 h4 h5
 have C := bt
 clear bt cS bI
 refine .np 33 [vI r.t, vI r.v] fun ab eU bJ bK J cT => ?_
 replace ⟨h1, h2, h3, h4, h5, E, C⟩ := (sn [aa] bK bJ).g7 h1 h2 h3 h4 h5 E C
 clear bK cT bJ
 refine .np 30 [.slice none 0 0, .slice none 0 0, .slice none 0 0, .slice none 0 0] fun ac dy aI bL O cU => ?_
 have eo := nb_new aI E.lt
 have ep := nb_new aI J.lt
 have es := C.cn aI
 replace ⟨h1, h2, h3, h4, h5, E, J, C⟩ := (sn [ab, aa] bL aI).g8 h1 h2 h3 h4 h5 E J C
 clear bL cU aI
 refine .r 1 <| .d <| .s <| .s <| .g <| .ln E <| .cl (c_impl_StoreOk s h1.ta h2.ta h3.ta h4.ta p0 (w := dy) (F := all)) ?_
 rintro eV dz ⟨rfl, bM⟩
 replace ⟨h1, h2, h3, h4, h5, E, J, O, C⟩ := (se [ac, ab, aa] bM).g9 h1 h2 h3 h4 h5 E J O C
 clear bM
 cases et : (storeOk s)
 · refine .r 6 <| .d <| .ct <| .s <| .g <| .r 1 <| .sc [.slice none 0 0, .slice none 0 0, .slice none 0 0, .slice none 0 0] O fun eW bN cV cW => ?_
   replace ⟨h1, h2, h3, h4, h5, E, J, C⟩ := (so [ac, ab, aa] bN).g8 h1 h2 h3 h4 h5 E J C
   clear bN cW
   exact .r 1 <| .d <| .r2 Tryz.func6 Tryz.results6 (.bx cV) (.t (.bool false)) ⟨⟨_, (tup2 rfl (congrArg Value.bool (by first | exact (congrArg Prod.fst (addP_no (.inl (by assumption)))).symm | exact (congrArg Prod.snd (addP_no (.inl (by assumption)))).symm | exact (congrArg Prod.fst (addP_no (.inr (by assumption)))).symm | exact (congrArg Prod.snd (addP_no (.inr (by assumption)))).symm | exact (congrArg Prod.fst (addQ_1 p0 (by assumption) (by assumption) (by assumption))).symm | exact (congrArg Prod.snd (addQ_1 p0 (by assumption) (by assumption) (by assumption))).symm | exact (congrArg Prod.fst (addQ_2 p0 (by assumption) (by assumption) (by assumption))).symm | exact (congrArg Prod.snd (addQ_2 p0 (by assumption) (by assumption) (by assumption))).symm | exact (congrArg Prod.fst (addQ_3 p0 (by assumption) (by assumption) (by assumption))).symm | exact (congrArg Prod.snd (addQ_3 p0 (by assumption) (by assumption) (by assumption))).symm | exact (congrArg Prod.fst (addQ_4 p0 (by assumption) (by assumption) (by assumption) (by assumption) (by assumption) (by assumption))).symm | exact (congrArg Prod.snd (addQ_4 p0 (by assumption) (by assumption) (by assumption) (by assumption) (by assumption) (by assumption))).symm | exact (congrArg Prod.fst (addQ_5 p0 (by assumption) (by assumption) (by assumption) (by assumption) (by assumption) (by assumption))).symm | exact (congrArg Prod.snd (addQ_5 p0 (by assumption) (by assumption) (by assumption) (by assumption) (by assumption) (by assumption))).symm))), (VS.of (y := (⟨(⟨([] : List (List Tag)), ([] : List Pst)⟩ : Idx), ([] : List Prt), ([] : List Smp)⟩ : Sto)) ⟨_, rfl, ⟨_, _, _, _, _, _, _, _, _, _, _, _, rfl, (RepS.nil' _ _ none 0 (by decide)), (RepS.nil' _ _ none 0 (by decide)), (RepS.nil' _ _ none 0 (by decide)), (RepS.nil' _ _ none 0 (by decide))⟩⟩ (by first | exact (congrArg Prod.fst (addP_no (.inl (by assumption)))).symm | exact (congrArg Prod.snd (addP_no (.inl (by assumption)))).symm | exact (congrArg Prod.fst (addP_no (.inr (by assumption)))).symm | exact (congrArg Prod.snd (addP_no (.inr (by assumption)))).symm | exact (congrArg Prod.fst (addQ_1 p0 (by assumption) (by assumption) (by assumption))).symm | exact (congrArg Prod.snd (addQ_1 p0 (by assumption) (by assumption) (by assumption))).symm | exact (congrArg Prod.fst (addQ_2 p0 (by assumption) (by assumption) (by assumption))).symm | exact (congrArg Prod.snd (addQ_2 p0 (by assumption) (by assumption) (by assumption))).symm | exact (congrArg Prod.fst (addQ_3 p0 (by assumption) (by assumption) (by assumption))).symm | exact (congrArg Prod.snd (addQ_3 p0 (by assumption) (by assumption) (by assumption))).symm | exact (congrArg Prod.fst (addQ_4 p0 (by assumption) (by assumption) (by assumption) (by assumption) (by assumption) (by assumption))).symm | exact (congrArg Prod.snd (addQ_4 p0 (by assumption) (by assumption) (by assumption) (by assumption) (by assumption) (by assumption))).symm | exact (congrArg Prod.fst (addQ_5 p0 (by assumption) (by assumption) (by assumption) (by assumption) (by assumption) (by assumption))).symm | exact (congrArg Prod.snd (addQ_5 p0 (by assumption) (by assumption) (by assumption) (by assumption) (by assumption) (by assumption))).symm))⟩, C⟩
 refine .r 3 <| .cl (c_impl_NameOk n h5.ta (w := dz) (F := all)) ?_
 rintro eX cX ⟨rfl, bO⟩
 replace ⟨h1, h2, h3, h4, h5, E, J, O, C⟩ := (se [ac, ab, aa] bO).g9 h1 h2 h3 h4 h5 E J O C
 clear bO
 cases ew : (nameOk n)
 · refine .r 2 <| .d <| .ct <| .s <| .g <| .r 1 <| .sc [.slice none 0 0, .slice none 0 0, .slice none 0 0, .slice none 0 0] O fun eY bP cY cZ => ?_
   replace ⟨h1, h2, h3, h4, h5, E, J, C⟩ := (so [ac, ab, aa] bP).g8 h1 h2 h3 h4 h5 E J C
   clear bP cZ
   exact .r 1 <| .d <| .r2 Tryz.func6 Tryz.results6 (.bx cY) (.t (.bool false)) ⟨⟨_, (tup2 rfl (congrArg Value.bool (by first | exact (congrArg Prod.fst (addP_no (.inl (by assumption)))).symm | exact (congrArg Prod.snd (addP_no (.inl (by assumption)))).symm | exact (congrArg Prod.fst (addP_no (.inr (by assumption)))).symm | exact (congrArg Prod.snd (addP_no (.inr (by assumption)))).symm | exact (congrArg Prod.fst (addQ_1 p0 (by assumption) (by assumption) (by assumption))).symm | exact (congrArg Prod.snd (addQ_1 p0 (by assumption) (by assumption) (by assumption))).symm | exact (congrArg Prod.fst (addQ_2 p0 (by assumption) (by assumption) (by assumption))).symm | exact (congrArg Prod.snd (addQ_2 p0 (by assumption) (by assumption) (by assumption))).symm | exact (congrArg Prod.fst (addQ_3 p0 (by assumption) (by assumption) (by assumption))).symm | exact (congrArg Prod.snd (addQ_3 p0 (by assumption) (by assumption) (by assumption))).symm | exact (congrArg Prod.fst (addQ_4 p0 (by assumption) (by assumption) (by assumption) (by assumption) (by assumption) (by assumption))).symm | exact (congrArg Prod.snd (addQ_4 p0 (by assumption) (by assumption) (by assumption) (by assumption) (by assumption) (by assumption))).symm | exact (congrArg Prod.fst (addQ_5 p0 (by assumption) (by assumption) (by assumption) (by assumption) (by assumption) (by assumption))).symm | exact (congrArg Prod.snd (addQ_5 p0 (by assumption) (by assumption) (by assumption) (by assumption) (by assumption) (by assumption))).symm))), (VS.of (y := (⟨(⟨([] : List (List Tag)), ([] : List Pst)⟩ : Idx), ([] : List Prt), ([] : List Smp)⟩ : Sto)) ⟨_, rfl, ⟨_, _, _, _, _, _, _, _, _, _, _, _, rfl, (RepS.nil' _ _ none 0 (by decide)), (RepS.nil' _ _ none 0 (by decide)), (RepS.nil' _ _ none 0 (by decide)), (RepS.nil' _ _ none 0 (by decide))⟩⟩ (by first | exact (congrArg Prod.fst (addP_no (.inl (by assumption)))).symm | exact (congrArg Prod.snd (addP_no (.inl (by assumption)))).symm | exact (congrArg Prod.fst (addP_no (.inr (by assumption)))).symm | exact (congrArg Prod.snd (addP_no (.inr (by assumption)))).symm | exact (congrArg Prod.fst (addQ_1 p0 (by assumption) (by assumption) (by assumption))).symm | exact (congrArg Prod.snd (addQ_1 p0 (by assumption) (by assumption) (by assumption))).symm | exact (congrArg Prod.fst (addQ_2 p0 (by assumption) (by assumption) (by assumption))).symm | exact (congrArg Prod.snd (addQ_2 p0 (by assumption) (by assumption) (by assumption))).symm | exact (congrArg Prod.fst (addQ_3 p0 (by assumption) (by assumption) (by assumption))).symm | exact (congrArg Prod.snd (addQ_3 p0 (by assumption) (by assumption) (by assumption))).symm | exact (congrArg Prod.fst (addQ_4 p0 (by assumption) (by assumption) (by assumption) (by assumption) (by assumption) (by assumption))).symm | exact (congrArg Prod.snd (addQ_4 p0 (by assumption) (by assumption) (by assumption) (by assumption) (by assumption) (by assumption))).symm | exact (congrArg Prod.fst (addQ_5 p0 (by assumption) (by assumption) (by assumption) (by assumption) (by assumption) (by assumption))).symm | exact (congrArg Prod.snd (addQ_5 p0 (by assumption) (by assumption) (by assumption) (by assumption) (by assumption) (by assumption))).symm))⟩, C⟩
 refine .r 2 <| .d <| .cf <| .sk <| .s <| .g <| .ln E <| .cl (c_impl_cloneStore s h1.ta h2.ta h3.ta h4.ta p0.nm p0.nd p0.sz (w := cX) (F := all)) ?_
 rintro eZ bD ⟨⟨bE, e0, bF, bG, e7, bH, bo, e8, bq, ah, aQ, bu, rfl, al, am, af, ae, aF⟩, bQ⟩
 have aJ := al3 O.lt J.lt E.lt
 have bk : Gb w.heap.size cX.heap.size := C.size
 have c7 := nb_ge aF E.lt
 have c8 := nb_ge aF J.lt
 have c9 := nb_ge aF O.lt
 have bm := gb_ge aF C.size
 have ex : Cov nil w ah := cov_ge aF C.size
 replace ⟨h1, h2, h3, h4, h5, E, J, O, C⟩ := (sz [ac, ab, aa] bQ aF).g9 h1 h2 h3 h4 h5 E J O C
 clear bQ aF
 replace al : RepS bD (nin (ge w.heap.size) [ah, ac, ab, aa]) _ _ _ _ := RepS.takeM (s0 := w.heap.size) (M := [ac, ab, aa]) al aJ bk
 replace al := al.base (G' := fo F w.heap.size) (fun _ _ h => .inr h)
 have dA := al.max
 replace am : RepS bD (nin (ge w.heap.size) [ah, ac, ab, aa]) _ _ _ _ := RepS.takeM (s0 := w.heap.size) (M := [ac, ab, aa]) am aJ bk
 replace am := am.base (G' := fo F w.heap.size) (fun _ _ h => .inr h)
 have dB := am.max
 replace af : RepS bD (nin (ge w.heap.size) [ah, ac, ab, aa]) _ _ _ _ := RepS.takeM (s0 := w.heap.size) (M := [ac, ab, aa]) af aJ bk
 replace af := af.base (G' := fo F w.heap.size) (fun _ _ h => .inr h)
 have dC := af.max
 replace ae : Own bD ah 62 (nin (ge w.heap.size) [ah, ac, ab, aa]) _ _ _ := Own.takeM (s0 := w.heap.size) (M := [ac, ab, aa]) ae aJ bk
 replace ae := ae.base (G' := fo F w.heap.size) (fun _ _ h => .inr h)
 have dD := ae.max
 have dE := ae.len
 clear aJ
 have bW := al.len
 subst bW
 have bX := am.len
 subst bX
 have bY := af.len
 subst bY
 refine .np 30 [.slice none 0 0, .slice none 0 0, .slice none 0 0, .slice none 0 0] fun V ey ay aR bZ b0 => ?_
 have dF := nb_new ay E.lt
 have dG := nb_new ay J.lt
 have dH := nb_new ay O.lt
 have b6 := nb_new ay ae.lt
 have dI := C.cn ay
 replace ⟨h1, h2, h3, h4, h5, E, J, O, al, am, af, ae⟩ := (sn [ah, ac, ab, aa] aR ay).g12 h1 h2 h3 h4 h5 E J O al am af ae
 replace C := (sn [ah, ac, ab, aa] aR ay).g1 C
 clear aR b0 ay
 refine .sc [.slice bE (((((copyS s)).idx).names).length) bF, .slice bG (((((copyS s)).idx).posts).length) bH, .slice bo ((((copyS s)).parts).length) bq, vS ah aQ bu] bZ fun bR aS ai b7 => ?_
 replace ⟨h1, h2, h3, h4, h5, E, J, O, al, am, af, ae⟩ := (so [V, ah, ac, ab, aa] aS).g12 h1 h2 h3 h4 h5 E J O al am af ae
 replace C := (so [V, ah, ac, ab, aa] aS).g1 C
 clear aS b7
 refine .d <| .s <| .g <| .r 1 <| .ln E <| .r 1 <| .cl (c_impl_IndexAdd s.idx n h1 h2 h5 p0.ix p0.nd p1 (w := bR) (F := nin (fo F w.heap.size) [V, ah, ac, ab, aa])) ?_
 rintro ez eA ⟨⟨eB, rfl, ⟨_, rfl, ⟨aK, eC, aL, aM, eD, aN, rfl, W, Z⟩⟩⟩, aT⟩
 have aU := al5 ai.lt ae.lt O.lt J.lt E.lt
 have bv : Gb w.heap.size bR.heap.size := C.size
 replace ⟨h1, h2, h3, h4, E, J, O, al, am, af, ae, ai⟩ := (se [V, ah, ac, ab, aa] aT).g12 h1 h2 h3 h4 E J O al am af ae ai
 replace C := (se [V, ah, ac, ab, aa] aT).g1 C
 clear aT
 replace W := RepS.mixed' (M := [V, ah, ac, ab, aa]) W aU bv
 have dJ := W.max
 replace Z := RepS.mixed' (M := [V, ah, ac, ab, aa]) Z aU bv
 have dK := Z.max
 clear aU
 have b8 := W.len
 subst b8
 have b9 := Z.len
 subst b9
 refine .r 3 ?_
 cases dL : (addI s.idx n).2.2
 · refine .r 1 <| .np 26 [.slice none 0 0, .slice none 0 0] fun aO eE au aV cd ce => ?_
   have dM := nb_new au E.lt
   have dN := nb_new au J.lt
   have dO := nb_new au O.lt
   have dP := nb_new au ae.lt
   have dQ := nb_new au ai.lt
   have dR := C.cn au
   replace ⟨h1, h2, h3, h4, E, J, O, al, am, af, ae, ai⟩ := (sn [V, ah, ac, ab, aa] aV au).g12 h1 h2 h3 h4 E J O al am af ae ai
   replace ⟨W, Z, C⟩ := (sn [V, ah, ac, ab, aa] aV au).g3 W Z C
   clear aV ce au
   refine .sc [.slice aK ((((addI s.idx n).1).names).length) aL, .slice aM ((((addI s.idx n).1).posts).length) aN] cd fun eF aW dS cg => ?_
   replace ⟨h1, h2, h3, h4, E, J, O, al, am, af, ae, ai⟩ := (so [aO, V, ah, ac, ab, aa] aW).g12 h1 h2 h3 h4 E J O al am af ae ai
   replace ⟨W, Z, C⟩ := (so [aO, V, ah, ac, ab, aa] aW).g3 W Z C
   clear aW cg
   refine .r 2 <| .d <| .s <| .s <| .g <| .r 13 <| .d <| .ct <| .s <| .g <| .ln ai <| .sc [.slice bE (((((copyS s)).idx).names).length) bF, .slice bG (((((copyS s)).idx).posts).length) bH, .slice bo ((((copyS s)).parts).length) bq, vS ah aQ bu] O fun da aX ci cj => ?_
   replace ⟨h1, h2, h3, h4, E, J, al, am, af, ae, ai, W⟩ := (so [aO, V, ah, ac, ab, aa] aX).g12 h1 h2 h3 h4 E J al am af ae ai W
   replace ⟨Z, C⟩ := (so [aO, V, ah, ac, ab, aa] aX).g2 Z C
   clear aX cj
   refine .r 1 <| .d ?_
   have db := ae.sl (.inr bm)
   replace ⟨h1, h2, h3, h4, al, am, af, W, Z⟩ := (sd da [aO, V, ah, ac, ab, aa] ah).g9 h1 h2 h3 h4 al am af W Z
   exact .r2 Tryz.func6 Tryz.results6 (.bx ci) (.t (.bool false)) ⟨⟨_, (tup2 rfl (congrArg Value.bool (by first | exact (congrArg Prod.fst (addP_no (.inl (by assumption)))).symm | exact (congrArg Prod.snd (addP_no (.inl (by assumption)))).symm | exact (congrArg Prod.fst (addP_no (.inr (by assumption)))).symm | exact (congrArg Prod.snd (addP_no (.inr (by assumption)))).symm | exact (congrArg Prod.fst (addQ_1 p0 (by assumption) (by assumption) (by assumption))).symm | exact (congrArg Prod.snd (addQ_1 p0 (by assumption) (by assumption) (by assumption))).symm | exact (congrArg Prod.fst (addQ_2 p0 (by assumption) (by assumption) (by assumption))).symm | exact (congrArg Prod.snd (addQ_2 p0 (by assumption) (by assumption) (by assumption))).symm | exact (congrArg Prod.fst (addQ_3 p0 (by assumption) (by assumption) (by assumption))).symm | exact (congrArg Prod.snd (addQ_3 p0 (by assumption) (by assumption) (by assumption))).symm | exact (congrArg Prod.fst (addQ_4 p0 (by assumption) (by assumption) (by assumption) (by assumption) (by assumption) (by assumption))).symm | exact (congrArg Prod.snd (addQ_4 p0 (by assumption) (by assumption) (by assumption) (by assumption) (by assumption) (by assumption))).symm | exact (congrArg Prod.fst (addQ_5 p0 (by assumption) (by assumption) (by assumption) (by assumption) (by assumption) (by assumption))).symm | exact (congrArg Prod.snd (addQ_5 p0 (by assumption) (by assumption) (by assumption) (by assumption) (by assumption) (by assumption))).symm))), (VS.of (y := (⟨(⟨(((copyS s)).idx).names, (((copyS s)).idx).posts⟩ : Idx), ((copyS s)).parts, ((copyS s)).mem⟩ : Sto)) ⟨_, rfl, ⟨_, _, _, _, _, _, _, _, _, _, _, _, rfl, al.w1, am.w1, af.w1, db.w1⟩⟩ (by first | exact (congrArg Prod.fst (addP_no (.inl (by assumption)))).symm | exact (congrArg Prod.snd (addP_no (.inl (by assumption)))).symm | exact (congrArg Prod.fst (addP_no (.inr (by assumption)))).symm | exact (congrArg Prod.snd (addP_no (.inr (by assumption)))).symm | exact (congrArg Prod.fst (addQ_1 p0 (by assumption) (by assumption) (by assumption))).symm | exact (congrArg Prod.snd (addQ_1 p0 (by assumption) (by assumption) (by assumption))).symm | exact (congrArg Prod.fst (addQ_2 p0 (by assumption) (by assumption) (by assumption))).symm | exact (congrArg Prod.snd (addQ_2 p0 (by assumption) (by assumption) (by assumption))).symm | exact (congrArg Prod.fst (addQ_3 p0 (by assumption) (by assumption) (by assumption))).symm | exact (congrArg Prod.snd (addQ_3 p0 (by assumption) (by assumption) (by assumption))).symm | exact (congrArg Prod.fst (addQ_4 p0 (by assumption) (by assumption) (by assumption) (by assumption) (by assumption) (by assumption))).symm | exact (congrArg Prod.snd (addQ_4 p0 (by assumption) (by assumption) (by assumption) (by assumption) (by assumption) (by assumption))).symm | exact (congrArg Prod.fst (addQ_5 p0 (by assumption) (by assumption) (by assumption) (by assumption) (by assumption) (by assumption))).symm | exact (congrArg Prod.snd (addQ_5 p0 (by assumption) (by assumption) (by assumption) (by assumption) (by assumption) (by assumption))).symm))⟩, C⟩
 refine .r 1 <| .np 26 [.slice none 0 0, .slice none 0 0] fun ag eG av aY ck cm => ?_
 have dT := nb_new av E.lt
 have dU := nb_new av J.lt
 have dV := nb_new av O.lt
 have co := nb_new av ae.lt
 have dW := nb_new av ai.lt
 have dX := C.cn av
 replace ⟨h1, h2, h3, h4, E, J, O, al, am, af, ae, ai⟩ := (sn [V, ah, ac, ab, aa] aY av).g12 h1 h2 h3 h4 E J O al am af ae ai
 replace ⟨W, Z, C⟩ := (sn [V, ah, ac, ab, aa] aY av).g3 W Z C
 clear aY cm av
 refine .sc [.slice aK ((((addI s.idx n).1).names).length) aL, .slice aM ((((addI s.idx n).1).posts).length) aN] ck fun dd aZ aj cp => ?_
 replace ⟨h1, h2, h3, h4, E, J, O, al, am, af, ae, ai⟩ := (so [ag, V, ah, ac, ab, aa] aZ).g12 h1 h2 h3 h4 E J O al am af ae ai
 replace ⟨W, Z, C⟩ := (so [ag, V, ah, ac, ab, aa] aZ).g3 W Z C
 clear aZ cp
 refine .r 2 <| .d <| .s <| .s <| .g <| .r 3 <| .ln J <| .cl (c_impl_rowOk r (w := dd) (F := all)) ?_
 rintro eH eI ⟨rfl, ba⟩
 replace ⟨h1, h2, h3, h4, E, J, O, al, am, af, ae, ai⟩ := (se [ag, V, ah, ac, ab, aa] ba).g12 h1 h2 h3 h4 E J O al am af ae ai
 replace ⟨W, Z, aj, C⟩ := (se [ag, V, ah, ac, ab, aa] ba).g4 W Z aj C
 clear ba
 cases dY : (rowOk r)
 · refine .r 8 <| .d <| .ct <| .s <| .g <| .ln ai <| .sc [.slice bE (((((copyS s)).idx).names).length) bF, .slice bG (((((copyS s)).idx).posts).length) bH, .slice bo ((((copyS s)).parts).length) bq, vS ah aQ bu] O fun de bb cq cr => ?_
   replace ⟨h1, h2, h3, h4, E, J, al, am, af, ae, ai, W⟩ := (so [ag, V, ah, ac, ab, aa] bb).g12 h1 h2 h3 h4 E J al am af ae ai W
   replace ⟨Z, aj, C⟩ := (so [ag, V, ah, ac, ab, aa] bb).g3 Z aj C
   clear bb cr
   refine .r 1 <| .d ?_
   have df := ae.sl (.inr bm)
   replace ⟨h1, h2, h3, h4, al, am, af, W, Z⟩ := (sd de [ag, V, ah, ac, ab, aa] ah).g9 h1 h2 h3 h4 al am af W Z
   exact .r2 Tryz.func6 Tryz.results6 (.bx cq) (.t (.bool false)) ⟨⟨_, (tup2 rfl (congrArg Value.bool (by first | exact (congrArg Prod.fst (addP_no (.inl (by assumption)))).symm | exact (congrArg Prod.snd (addP_no (.inl (by assumption)))).symm | exact (congrArg Prod.fst (addP_no (.inr (by assumption)))).symm | exact (congrArg Prod.snd (addP_no (.inr (by assumption)))).symm | exact (congrArg Prod.fst (addQ_1 p0 (by assumption) (by assumption) (by assumption))).symm | exact (congrArg Prod.snd (addQ_1 p0 (by assumption) (by assumption) (by assumption))).symm | exact (congrArg Prod.fst (addQ_2 p0 (by assumption) (by assumption) (by assumption))).symm | exact (congrArg Prod.snd (addQ_2 p0 (by assumption) (by assumption) (by assumption))).symm | exact (congrArg Prod.fst (addQ_3 p0 (by assumption) (by assumption) (by assumption))).symm | exact (congrArg Prod.snd (addQ_3 p0 (by assumption) (by assumption) (by assumption))).symm | exact (congrArg Prod.fst (addQ_4 p0 (by assumption) (by assumption) (by assumption) (by assumption) (by assumption) (by assumption))).symm | exact (congrArg Prod.snd (addQ_4 p0 (by assumption) (by assumption) (by assumption) (by assumption) (by assumption) (by assumption))).symm | exact (congrArg Prod.fst (addQ_5 p0 (by assumption) (by assumption) (by assumption) (by assumption) (by assumption) (by assumption))).symm | exact (congrArg Prod.snd (addQ_5 p0 (by assumption) (by assumption) (by assumption) (by assumption) (by assumption) (by assumption))).symm))), (VS.of (y := (⟨(⟨(((copyS s)).idx).names, (((copyS s)).idx).posts⟩ : Idx), ((copyS s)).parts, ((copyS s)).mem⟩ : Sto)) ⟨_, rfl, ⟨_, _, _, _, _, _, _, _, _, _, _, _, rfl, al.w1, am.w1, af.w1, df.w1⟩⟩ (by first | exact (congrArg Prod.fst (addP_no (.inl (by assumption)))).symm | exact (congrArg Prod.snd (addP_no (.inl (by assumption)))).symm | exact (congrArg Prod.fst (addP_no (.inr (by assumption)))).symm | exact (congrArg Prod.snd (addP_no (.inr (by assumption)))).symm | exact (congrArg Prod.fst (addQ_1 p0 (by assumption) (by assumption) (by assumption))).symm | exact (congrArg Prod.snd (addQ_1 p0 (by assumption) (by assumption) (by assumption))).symm | exact (congrArg Prod.fst (addQ_2 p0 (by assumption) (by assumption) (by assumption))).symm | exact (congrArg Prod.snd (addQ_2 p0 (by assumption) (by assumption) (by assumption))).symm | exact (congrArg Prod.fst (addQ_3 p0 (by assumption) (by assumption) (by assumption))).symm | exact (congrArg Prod.snd (addQ_3 p0 (by assumption) (by assumption) (by assumption))).symm | exact (congrArg Prod.fst (addQ_4 p0 (by assumption) (by assumption) (by assumption) (by assumption) (by assumption) (by assumption))).symm | exact (congrArg Prod.snd (addQ_4 p0 (by assumption) (by assumption) (by assumption) (by assumption) (by assumption) (by assumption))).symm | exact (congrArg Prod.fst (addQ_5 p0 (by assumption) (by assumption) (by assumption) (by assumption) (by assumption) (by assumption))).symm | exact (congrArg Prod.snd (addQ_5 p0 (by assumption) (by assumption) (by assumption) (by assumption) (by assumption) (by assumption))).symm))⟩, C⟩
 refine .r 4 <| .lb E <| .r 1 <| .eq (s.mem.length : Int) 20 (fun cu => ?_) (fun cu => ?_)
 · refine .r 1 <| .d <| .ct <| .s <| .g <| .ln ai <| .sc [.slice bE (((((copyS s)).idx).names).length) bF, .slice bG (((((copyS s)).idx).posts).length) bH, .slice bo ((((copyS s)).parts).length) bq, vS ah aQ bu] O fun dg bc cv cw => ?_
   replace ⟨h1, h2, h3, h4, E, J, al, am, af, ae, ai, W⟩ := (so [ag, V, ah, ac, ab, aa] bc).g12 h1 h2 h3 h4 E J al am af ae ai W
   replace ⟨Z, aj, C⟩ := (so [ag, V, ah, ac, ab, aa] bc).g3 Z aj C
   clear bc cw
   refine .r 1 <| .d ?_
   have dh := ae.sl (.inr bm)
   replace ⟨h1, h2, h3, h4, al, am, af, W, Z⟩ := (sd dg [ag, V, ah, ac, ab, aa] ah).g9 h1 h2 h3 h4 al am af W Z
   exact .r2 Tryz.func6 Tryz.results6 (.bx cv) (.t (.bool false)) ⟨⟨_, (tup2 rfl (congrArg Value.bool (by first | exact (congrArg Prod.fst (addP_no (.inl (by assumption)))).symm | exact (congrArg Prod.snd (addP_no (.inl (by assumption)))).symm | exact (congrArg Prod.fst (addP_no (.inr (by assumption)))).symm | exact (congrArg Prod.snd (addP_no (.inr (by assumption)))).symm | exact (congrArg Prod.fst (addQ_1 p0 (by assumption) (by assumption) (by assumption))).symm | exact (congrArg Prod.snd (addQ_1 p0 (by assumption) (by assumption) (by assumption))).symm | exact (congrArg Prod.fst (addQ_2 p0 (by assumption) (by assumption) (by assumption))).symm | exact (congrArg Prod.snd (addQ_2 p0 (by assumption) (by assumption) (by assumption))).symm | exact (congrArg Prod.fst (addQ_3 p0 (by assumption) (by assumption) (by assumption))).symm | exact (congrArg Prod.snd (addQ_3 p0 (by assumption) (by assumption) (by assumption))).symm | exact (congrArg Prod.fst (addQ_4 p0 (by assumption) (by assumption) (by assumption) (by assumption) (by assumption) (by assumption))).symm | exact (congrArg Prod.snd (addQ_4 p0 (by assumption) (by assumption) (by assumption) (by assumption) (by assumption) (by assumption))).symm | exact (congrArg Prod.fst (addQ_5 p0 (by assumption) (by assumption) (by assumption) (by assumption) (by assumption) (by assumption))).symm | exact (congrArg Prod.snd (addQ_5 p0 (by assumption) (by assumption) (by assumption) (by assumption) (by assumption) (by assumption))).symm))), (VS.of (y := (⟨(⟨(((copyS s)).idx).names, (((copyS s)).idx).posts⟩ : Idx), ((copyS s)).parts, ((copyS s)).mem⟩ : Sto)) ⟨_, rfl, ⟨_, _, _, _, _, _, _, _, _, _, _, _, rfl, al.w1, am.w1, af.w1, dh.w1⟩⟩ (by first | exact (congrArg Prod.fst (addP_no (.inl (by assumption)))).symm | exact (congrArg Prod.snd (addP_no (.inl (by assumption)))).symm | exact (congrArg Prod.fst (addP_no (.inr (by assumption)))).symm | exact (congrArg Prod.snd (addP_no (.inr (by assumption)))).symm | exact (congrArg Prod.fst (addQ_1 p0 (by assumption) (by assumption) (by assumption))).symm | exact (congrArg Prod.snd (addQ_1 p0 (by assumption) (by assumption) (by assumption))).symm | exact (congrArg Prod.fst (addQ_2 p0 (by assumption) (by assumption) (by assumption))).symm | exact (congrArg Prod.snd (addQ_2 p0 (by assumption) (by assumption) (by assumption))).symm | exact (congrArg Prod.fst (addQ_3 p0 (by assumption) (by assumption) (by assumption))).symm | exact (congrArg Prod.snd (addQ_3 p0 (by assumption) (by assumption) (by assumption))).symm | exact (congrArg Prod.fst (addQ_4 p0 (by assumption) (by assumption) (by assumption) (by assumption) (by assumption) (by assumption))).symm | exact (congrArg Prod.snd (addQ_4 p0 (by assumption) (by assumption) (by assumption) (by assumption) (by assumption) (by assumption))).symm | exact (congrArg Prod.fst (addQ_5 p0 (by assumption) (by assumption) (by assumption) (by assumption) (by assumption) (by assumption))).symm | exact (congrArg Prod.snd (addQ_5 p0 (by assumption) (by assumption) (by assumption) (by assumption) (by assumption) (by assumption))).symm))⟩, C⟩
 refine .r 1 <| .d <| .cf <| .sk <| .s <| .g <| .ln aj <| .r 1 <| .sb 0 (.agg #[.slice aK ((((addI s.idx n).1).names).length) aL, .slice aM ((((addI s.idx n).1).posts).length) aN]) [.slice aK ((((addI s.idx n).1).names).length) aL, .slice aM ((((addI s.idx n).1).posts).length) aN, .slice bo ((((copyS s)).parts).length) bq, vS ah aQ bu] ai fun eJ bd az cx => ?_
 replace ⟨h1, h2, h3, h4, E, J, O, af, ae, W, Z, aj⟩ := (so [ag, V, ah, ac, ab, aa] bd).g12 h1 h2 h3 h4 E J O af ae W Z aj
 replace C := (so [ag, V, ah, ac, ab, aa] bd).g1 C
 clear bd cx
 refine .d <| .s <| .g <| .r 1 <| .lb az <| .r 1 <| .ln J <| .r 1 <| .ns 1 62 [vI ((addI s.idx n).2.1), vI r.t, vI r.v] fun bS eK aA bg cy cz => ?_
 have cA := nb_new aA E.lt
 have cB := nb_new aA J.lt
 have cC := nb_new aA O.lt
 have bw := nb_new aA ae.lt
 have cD := nb_new aA az.lt
 have cE := nb_new aA aj.lt
 have cF := gb_new aA C.size
 replace ⟨h1, h2, h3, h4, E, J, O, af, ae, az, W, Z⟩ := (se [ag, V, ah, ac, ab, aa] bg).g12 h1 h2 h3 h4 E J O af ae az W Z
 replace ⟨aj, C⟩ := (se [ag, V, ah, ac, ab, aa] bg).g2 aj C
 clear bg cz aA
 have br : nin (fo F w.heap.size) [ag, V, ah, ac, ab, aa] bS ∧ bS ≠ ah := hap_mk (.inr cF) (all_cons cE (all_cons cD (all_cons bw (all_cons cC (all_cons cB (all_cons cA all_nil)))))) bw
 refine RG.append1 (T := 28) (ty := 28) (y := (⟨(addI s.idx n).2.1, (⟨r.t, r.v⟩ : Row)⟩ : Smp)) ae cy (by kernel_rfl) (by kernel_rfl) rfl br (by have q1 := p0.nm2; have q2 : (copyS s).mem.length = s.mem.length := rfl; omega) fun ao bT eL ak aq bh => ?_
 have d0 := nb_or aq c7 E.lt
 have d3 := nb_or aq c8 J.lt
 have d4 := nb_or aq c9 O.lt
 have d5 := nb_or aq (Nb.symm b6) az.lt
 have d6 := nb_or aq (Nb.symm co) aj.lt
 have cG := gb_or aq bm C.size
 replace ⟨h1, h2, h3, h4, E, J, O, af, az, W, Z, aj⟩ := (sa [ag, V, ah, ac, ab, aa] bh aq).g12 h1 h2 h3 h4 E J O af az W Z aj
 replace C := (sa [ag, V, ah, ac, ab, aa] bh aq).g1 C
 clear bh
 replace ak := ak.rn ah
 clear aq
 have d7 := ak.len; have d8 := ak.max
 refine .r 1 <| .ss 3 (vS ao (aQ + 1) bT) az fun bU bi ar cH => ?_
 replace ⟨h1, h2, h3, h4, E, J, O, af, ak, W, Z, aj⟩ := (so [ag, V, ao, ac, ab, aa] bi).g12 h1 h2 h3 h4 E J O af ak W Z aj
 replace C := (so [ag, V, ao, ac, ab, aa] bi).g1 C
 clear bi cH
 refine .d <| .s <| .s <| .g <| .ln ar <| .r 1 <| .cl (c_impl_Store_rows (⟨(⟨((addI s.idx n).1).names, ((addI s.idx n).1).posts⟩ : Idx), ((copyS s)).parts, (((copyS s)).mem ++ [(⟨(addI s.idx n).2.1, (⟨r.t, r.v⟩ : Row)⟩ : Smp)])⟩ : Sto) ((addI s.idx n).2.1) W.ta Z.ta af.ta (ak.rep) (by exact (StoK.of p0 (by assumption)).part) (addX_k2 (StoK.of p0 (by assumption)) (by assumption)) (by have q1 := p0.np; exact Nat.le_trans q1 (by omega)) (by have q1 := p0.nm2; simp only [copyS, List.length_append, List.length_cons, List.length_nil]; omega) (w := bU) (F := all)) ?_
 rintro eM bV ⟨⟨eN, eO, rfl, aP⟩, bj⟩
 have bz := al6 aj.lt ar.lt ak.lt O.lt J.lt E.lt
 have cI : Gb w.heap.size bU.heap.size := C.size
 replace ⟨h1, h2, h3, h4, E, J, O, af, ak, ar, W, Z⟩ := (se [ag, V, ao, ac, ab, aa] bj).g12 h1 h2 h3 h4 E J O af ak ar W Z
 replace ⟨aj, C⟩ := (se [ag, V, ao, ac, ab, aa] bj).g2 aj C
 clear bj
 have aP := aP.fr bz cI
 replace aP := aP.base (G' := fo F w.heap.size) (fun _ _ h => .inr h)
 have d9 := aP.max
 clear bz
 refine .r 1 <| .bp ((((rowsOf (⟨(⟨((addI s.idx n).1).names, ((addI s.idx n).1).posts⟩ : Idx), ((copyS s)).parts, (((copyS s)).mem ++ [(⟨(addI s.idx n).2.1, (⟨r.t, r.v⟩ : Row)⟩ : Smp)])⟩ : Sto) ((addI s.idx n).2.1)).length) : Int) > 24) (fun cJ => ?_) (fun cJ => ?_)
 · refine .d <| .ct <| .s <| .g <| .ln E <| .cl (c_impl_cloneStore s h1.ta h2.ta h3.ta h4.ta p0.nm p0.nd p0.sz (w := bV) (F := all)) ?_
   rintro eP bn ⟨⟨di, eQ, dj, dk, eR, dm, dp, eS, dq, aE, dr, dt, rfl, aB, aC, aD, aw, ax⟩, bA⟩
   have aG := al6 aj.lt ar.lt ak.lt O.lt J.lt E.lt
   have aH : Gb w.heap.size bV.heap.size := C.size
   have ea := nb_ge ax E.lt
   have eb := nb_ge ax J.lt
   have ec := nb_ge ax O.lt
   have ed := nb_ge ax ak.lt
   have ee := nb_ge ax ar.lt
   have ef := nb_ge ax aj.lt
   have cK := gb_ge ax C.size
   replace ⟨O, af, ak, ar, W, Z, C⟩ := (sz [ag, V, ao, ac, ab, aa] bA ax).g7 O af ak ar W Z C
   clear bA ax
   replace aB : RepS bn (nin (ge w.heap.size) [aE, ag, V, ao, ac, ab, aa]) _ _ _ _ := RepS.takeM (s0 := w.heap.size) (M := [ag, V, ao, ac, ab, aa]) aB aG aH
   replace aB := aB.base (G' := fo F w.heap.size) (fun _ _ h => .inr h)
   replace aC : RepS bn (nin (ge w.heap.size) [aE, ag, V, ao, ac, ab, aa]) _ _ _ _ := RepS.takeM (s0 := w.heap.size) (M := [ag, V, ao, ac, ab, aa]) aC aG aH
   replace aC := aC.base (G' := fo F w.heap.size) (fun _ _ h => .inr h)
   replace aD : RepS bn (nin (ge w.heap.size) [aE, ag, V, ao, ac, ab, aa]) _ _ _ _ := RepS.takeM (s0 := w.heap.size) (M := [ag, V, ao, ac, ab, aa]) aD aG aH
   replace aD := aD.base (G' := fo F w.heap.size) (fun _ _ h => .inr h)
   replace aw : Own bn aE 62 (nin (ge w.heap.size) [aE, ag, V, ao, ac, ab, aa]) _ _ _ := Own.takeM (s0 := w.heap.size) (M := [ag, V, ao, ac, ab, aa]) aw aG aH
   replace aw := aw.base (G' := fo F w.heap.size) (fun _ _ h => .inr h)
   have eg := aw.max
   have eh := aw.len
   clear aG
   have cL := aB.len
   subst cL
   have cM := aC.len
   subst cM
   have cN := aD.len
   subst cN
   refine .sc [.slice di (((((copyS s)).idx).names).length) dj, .slice dk (((((copyS s)).idx).posts).length) dm, .slice dp ((((copyS s)).parts).length) dq, vS aE dr dt] O fun du bB cO cP => ?_
   replace ⟨af, ak, ar, W, Z, aB, aC, aD, aw, C⟩ := (so [aE, ag, V, ao, ac, ab, aa] bB).g10 af ak ar W Z aB aC aD aw C
   clear bB cP
   refine .r 1 <| .d ?_
   have dv := aw.sl (.inr cK)
   replace ⟨af, ak, W, Z, aB, aC, aD⟩ := (sd du [aE, ag, V, ao, ac, ab, aa] aE).g7 af ak W Z aB aC aD
   exact .r2 Tryz.func6 Tryz.results6 (.bx cO) (.t (.bool false)) ⟨⟨_, (tup2 rfl (congrArg Value.bool (by first | exact (congrArg Prod.fst (addP_no (.inl (by assumption)))).symm | exact (congrArg Prod.snd (addP_no (.inl (by assumption)))).symm | exact (congrArg Prod.fst (addP_no (.inr (by assumption)))).symm | exact (congrArg Prod.snd (addP_no (.inr (by assumption)))).symm | exact (congrArg Prod.fst (addQ_1 p0 (by assumption) (by assumption) (by assumption))).symm | exact (congrArg Prod.snd (addQ_1 p0 (by assumption) (by assumption) (by assumption))).symm | exact (congrArg Prod.fst (addQ_2 p0 (by assumption) (by assumption) (by assumption))).symm | exact (congrArg Prod.snd (addQ_2 p0 (by assumption) (by assumption) (by assumption))).symm | exact (congrArg Prod.fst (addQ_3 p0 (by assumption) (by assumption) (by assumption))).symm | exact (congrArg Prod.snd (addQ_3 p0 (by assumption) (by assumption) (by assumption))).symm | exact (congrArg Prod.fst (addQ_4 p0 (by assumption) (by assumption) (by assumption) (by assumption) (by assumption) (by assumption))).symm | exact (congrArg Prod.snd (addQ_4 p0 (by assumption) (by assumption) (by assumption) (by assumption) (by assumption) (by assumption))).symm | exact (congrArg Prod.fst (addQ_5 p0 (by assumption) (by assumption) (by assumption) (by assumption) (by assumption) (by assumption))).symm | exact (congrArg Prod.snd (addQ_5 p0 (by assumption) (by assumption) (by assumption) (by assumption) (by assumption) (by assumption))).symm))), (VS.of (y := (⟨(⟨(((copyS s)).idx).names, (((copyS s)).idx).posts⟩ : Idx), ((copyS s)).parts, ((copyS s)).mem⟩ : Sto)) ⟨_, rfl, ⟨_, _, _, _, _, _, _, _, _, _, _, _, rfl, aB.w1, aC.w1, aD.w1, dv.w1⟩⟩ (by first | exact (congrArg Prod.fst (addP_no (.inl (by assumption)))).symm | exact (congrArg Prod.snd (addP_no (.inl (by assumption)))).symm | exact (congrArg Prod.fst (addP_no (.inr (by assumption)))).symm | exact (congrArg Prod.snd (addP_no (.inr (by assumption)))).symm | exact (congrArg Prod.fst (addQ_1 p0 (by assumption) (by assumption) (by assumption))).symm | exact (congrArg Prod.snd (addQ_1 p0 (by assumption) (by assumption) (by assumption))).symm | exact (congrArg Prod.fst (addQ_2 p0 (by assumption) (by assumption) (by assumption))).symm | exact (congrArg Prod.snd (addQ_2 p0 (by assumption) (by assumption) (by assumption))).symm | exact (congrArg Prod.fst (addQ_3 p0 (by assumption) (by assumption) (by assumption))).symm | exact (congrArg Prod.snd (addQ_3 p0 (by assumption) (by assumption) (by assumption))).symm | exact (congrArg Prod.fst (addQ_4 p0 (by assumption) (by assumption) (by assumption) (by assumption) (by assumption) (by assumption))).symm | exact (congrArg Prod.snd (addQ_4 p0 (by assumption) (by assumption) (by assumption) (by assumption) (by assumption) (by assumption))).symm | exact (congrArg Prod.fst (addQ_5 p0 (by assumption) (by assumption) (by assumption) (by assumption) (by assumption) (by assumption))).symm | exact (congrArg Prod.snd (addQ_5 p0 (by assumption) (by assumption) (by assumption) (by assumption) (by assumption) (by assumption))).symm))⟩, C⟩
 refine .d <| .cf <| .sk <| .s <| .g <| .ln ar <| .sc [.slice aK ((((addI s.idx n).1).names).length) aL, .slice aM ((((addI s.idx n).1).posts).length) aN, .slice bo ((((copyS s)).parts).length) bq, vS ao (aQ + 1) bT] O fun dw bC cQ cR => ?_
 replace ⟨af, ak, W, Z, C⟩ := (so [ag, V, ao, ac, ab, aa] bC).g5 af ak W Z C
 clear bC cR
 refine .r 1 <| .d ?_
 have dx := ak.sl (.inr cG)
 replace ⟨af, W, Z⟩ := (sd dw [ag, V, ao, ac, ab, aa] ao).g3 af W Z
 exact .r2 Tryz.func6 Tryz.results6 (.bx cQ) (.t (.bool true)) ⟨⟨_, (tup2 rfl (congrArg Value.bool (by first | exact (congrArg Prod.fst (addP_no (.inl (by assumption)))).symm | exact (congrArg Prod.snd (addP_no (.inl (by assumption)))).symm | exact (congrArg Prod.fst (addP_no (.inr (by assumption)))).symm | exact (congrArg Prod.snd (addP_no (.inr (by assumption)))).symm | exact (congrArg Prod.fst (addQ_1 p0 (by assumption) (by assumption) (by assumption))).symm | exact (congrArg Prod.snd (addQ_1 p0 (by assumption) (by assumption) (by assumption))).symm | exact (congrArg Prod.fst (addQ_2 p0 (by assumption) (by assumption) (by assumption))).symm | exact (congrArg Prod.snd (addQ_2 p0 (by assumption) (by assumption) (by assumption))).symm | exact (congrArg Prod.fst (addQ_3 p0 (by assumption) (by assumption) (by assumption))).symm | exact (congrArg Prod.snd (addQ_3 p0 (by assumption) (by assumption) (by assumption))).symm | exact (congrArg Prod.fst (addQ_4 p0 (by assumption) (by assumption) (by assumption) (by assumption) (by assumption) (by assumption))).symm | exact (congrArg Prod.snd (addQ_4 p0 (by assumption) (by assumption) (by assumption) (by assumption) (by assumption) (by assumption))).symm | exact (congrArg Prod.fst (addQ_5 p0 (by assumption) (by assumption) (by assumption) (by assumption) (by assumption) (by assumption))).symm | exact (congrArg Prod.snd (addQ_5 p0 (by assumption) (by assumption) (by assumption) (by assumption) (by assumption) (by assumption))).symm))), (VS.of (y := (⟨(⟨((addI s.idx n).1).names, ((addI s.idx n).1).posts⟩ : Idx), ((copyS s)).parts, (((copyS s)).mem ++ [(⟨(addI s.idx n).2.1, (⟨r.t, r.v⟩ : Row)⟩ : Smp)])⟩ : Sto)) ⟨_, rfl, ⟨_, _, _, _, _, _, _, _, _, _, _, _, rfl, W.w1, Z.w1, af.w1, dx.w1⟩⟩ (by first | exact (congrArg Prod.fst (addP_no (.inl (by assumption)))).symm | exact (congrArg Prod.snd (addP_no (.inl (by assumption)))).symm | exact (congrArg Prod.fst (addP_no (.inr (by assumption)))).symm | exact (congrArg Prod.snd (addP_no (.inr (by assumption)))).symm | exact (congrArg Prod.fst (addQ_1 p0 (by assumption) (by assumption) (by assumption))).symm | exact (congrArg Prod.snd (addQ_1 p0 (by assumption) (by assumption) (by assumption))).symm | exact (congrArg Prod.fst (addQ_2 p0 (by assumption) (by assumption) (by assumption))).symm | exact (congrArg Prod.snd (addQ_2 p0 (by assumption) (by assumption) (by assumption))).symm | exact (congrArg Prod.fst (addQ_3 p0 (by assumption) (by assumption) (by assumption))).symm | exact (congrArg Prod.snd (addQ_3 p0 (by assumption) (by assumption) (by assumption))).symm | exact (congrArg Prod.fst (addQ_4 p0 (by assumption) (by assumption) (by assumption) (by assumption) (by assumption) (by assumption))).symm | exact (congrArg Prod.snd (addQ_4 p0 (by assumption) (by assumption) (by assumption) (by assumption) (by assumption) (by assumption))).symm | exact (congrArg Prod.fst (addQ_5 p0 (by assumption) (by assumption) (by assumption) (by assumption) (by assumption) (by assumption))).symm | exact (congrArg Prod.snd (addQ_5 p0 (by assumption) (by assumption) (by assumption) (by assumption) (by assumption) (by assumption))).symm))⟩, C⟩
theorem c_impl_StoreRows (s : Sto) (id : Int) {w : World} {F : Nat → Prop} {a1 : Option Addr} {n1 c1 : Nat} (h1 : RepS w F a1 n1 c1 s.idx.names) {a2 : Option Addr} {n2 c2 : Nat} (h2 : RepS w F a2 n2 c2 s.idx.posts) {a3 : Option Addr} {n3 c3 : Nat} (h3 : RepS w F a3 n3 c3 s.parts) {a4 : Option Addr} {n4 c4 : Nat} (h4 : RepS w F a4 n4 c4 s.mem) (p0 : SD s) : Calls Tryz.prog 9 [.agg #[.slice a1 n1 c1, .slice a2 n2 c2, .slice a3 n3 c3, .slice a4 n4 c4], .int .i64 id].toArray w (rets fun rv w' => VL (ge w.heap.size) w' (rowsI s id : List Row) rv ∧ Ext w w') := by
 refine goT Tryz.func9 ?_
 obtain ⟨rfl, aI, h1⟩ := h1.tp
 obtain ⟨rfl, aJ, h2⟩ := h2.tp
 obtain ⟨rfl, aK, h3⟩ := h3.tp
 obtain ⟨rfl, aL, h4⟩ := h4.tp
 refine .s <| .g <| .np 30 [.slice a1 s.idx.names.length c1, .slice a2 s.idx.posts.length c2, .slice a3 s.parts.length c3, .slice a4 s.mem.length c4] fun J aC ac W E al => ?_
 replace ⟨h1, h2, h3, h4⟩ := (sn [] W ac).g4 h1 h2 h3 h4
 have C := W
 clear W al ac
 refine .r 1 <| .d <| .s <| .s <| .g <| .ln E <| .cl (c_impl_StoreOk s h1.ta h2.ta h3.ta h4.ta p0 (w := aC) (F := all)) ?_
 rintro aS aD ⟨rfl, ae⟩
 replace ⟨h1, h2, h3, h4, E, C⟩ := (se [J] ae).g6 h1 h2 h3 h4 E C
 clear ae
 cases aM : (storeOk s)
 · refine .r 10 <| .d <| .ct <| .s <| .g <| .ns 0 33 [] fun Z am O af ao aq => ?_
   have aN := nb_new O E.lt
   have ar := gb_new O C.size
   replace ⟨h1, h2, h3, h4, E, C⟩ := (sn [J] af O).g6 h1 h2 h3 h4 E C
   clear af aq O
   have au : Own (α := Row) am Z 33 (nin (ge w.heap.size) [Z, J]) 0 0 [] := Own.nil' ao
   refine .r 1 <| .d ?_
   have aE := au.sl ar
   replace ⟨h1, h2, h3, h4⟩ := (sd am [Z, J] Z).g4 h1 h2 h3 h4
   exact .rt Tryz.func9 Tryz.results9 (vS Z 0 0) ⟨(aE.vl (by first | rw [rowsI_no (.inl (by assumption))] | rw [rowsI_no (.inr (by assumption))] | rw [rowsI_yes (by assumption) (by assumption)]) (fun _ _ h => h.1)), C⟩
 refine .r 5 <| .lb E <| .r 1 <| .cl (c_impl_within id 1 (s.idx.names.length : Int) (w := aD) (F := all)) ?_
 rintro aT av ⟨rfl, ag⟩
 replace ⟨h1, h2, h3, h4, E, C⟩ := (se [J] ag).g6 h1 h2 h3 h4 E C
 clear ag
 cases ah : (inR id 1 (s.idx.names.length : Int))
 · have aO := inR_f ah
   refine .r 2 <| .d <| .ct <| .s <| .g <| .ns 0 33 [] fun aa aw V ai ax ay => ?_
   have aP := nb_new V E.lt
   have az := gb_new V C.size
   replace ⟨h1, h2, h3, h4, E, C⟩ := (sn [J] ai V).g6 h1 h2 h3 h4 E C
   clear ai ay V
   have aA : Own (α := Row) aw aa 33 (nin (ge w.heap.size) [aa, J]) 0 0 [] := Own.nil' ax
   refine .r 1 <| .d ?_
   have aF := aA.sl az
   replace ⟨h1, h2, h3, h4⟩ := (sd aw [aa, J] aa).g4 h1 h2 h3 h4
   exact .rt Tryz.func9 Tryz.results9 (vS aa 0 0) ⟨(aF.vl (by first | rw [rowsI_no (.inl (by assumption))] | rw [rowsI_no (.inr (by assumption))] | rw [rowsI_yes (by assumption) (by assumption)]) (fun _ _ h => h.1)), C⟩
 have aQ := inR_t ah
 refine .r 2 <| .d <| .cf <| .sk <| .s <| .g <| .ln E <| .r 1 <| .cl (c_impl_Store_rows s id h1.ta h2.ta h3.ta h4.ta (StoK.of p0 (by assumption)).part (StoK.of p0 (by assumption)).row (by have := p0.np; omega) (by have := p0.nm2; omega) (w := av) (F := all)) ?_
 rintro aU aV ⟨⟨aG, aH, rfl, ab⟩, aj⟩
 have ak := al1 E.lt
 have aB : Gb w.heap.size av.heap.size := C.size
 replace C := (se [] aj).g1 C
 clear aj
 have ab := ab.fr ak aB
 have aR := ab.max
 clear ak
 exact .r 1 <| .d <| .rt Tryz.func9 Tryz.results9 (.slice aG ((rowsOf s id).length) aH) ⟨(ab.vl (by first | rw [rowsI_no (.inl (by assumption))] | rw [rowsI_no (.inr (by assumption))] | rw [rowsI_yes (by assumption) (by assumption)]) (fun _ _ h => h.1)), C⟩
end Go.Proofs.YtndljnhfkdhggaaGreat