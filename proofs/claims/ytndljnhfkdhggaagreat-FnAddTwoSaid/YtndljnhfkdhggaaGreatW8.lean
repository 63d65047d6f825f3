/- walks; squeezed -/
import Derived.Test.YtndljnhfkdhggaaGreatMod8
set_option linter.unusedVariables false
set_option linter.unusedSimpArgs false
namespace Go.Proofs.YtndljnhfkdhggaaGreat
set_option maxRecDepth 100000
set_option maxHeartbeats 4000000
theorem c_spec_l21Open (d : Dsk) {w : World} {F : Nat → Prop} {a1 : Option Addr} {n1 c1 : Nat} (h1 : RepS w F a1 n1 c1 d.files) {a2 : Option Addr} {n2 c2 : Nat} (h2 : RepS w F a2 n2 c2 d.list) {a3 : Option Addr} {n3 c3 : Nat} (h3 : RepS w F a3 n3 c3 d.names) (p0 : d.names.length ≤ 1000) (p1 : ∀ n ∈ d.names, NmSz n) (p2 : d.list.length ≤ 1000) (p3 : ∀ n ∈ d.list, 0 ≤ numAt d n) : Calls Tryz.prog 120 [.agg #[.slice a1 n1 c1, .slice a2 n2 c2, .slice a3 n3 c3, .int .i64 d.next]].toArray w (rets fun rv w' => VS (fo F w.heap.size) w' (openS d : Sto) rv ∧ Ext w w') := by
 refine goT Tryz.func120 ?_
 obtain ⟨rfl, dk, h1⟩ := h1.tp
 obtain ⟨rfl, dm, h2⟩ := h2.tp
 obtain ⟨rfl, dp, h3⟩ := h3.tp
 refine .s <| .g <| .np 51 [.slice a1 d.files.length c1, .slice a2 d.list.length c2, .slice a3 d.names.length c3, vI d.next] fun ac dH bm aR V bY => ?_
 replace ⟨h1, h2, h3⟩ := (sn [] aR bm).g3 h1 h2 h3
 have C := aR
 clear aR bY bm
 refine .np 30 [.slice none 0 0, .slice none 0 0, .slice none 0 0, .slice none 0 0] fun ae bZ aS bn O b0 => ?_
 have dq := C.cn aS
 replace ⟨h1, h2, h3, V, C⟩ := (sn [ac] bn aS).g5 h1 h2 h3 V C
 clear bn b0 aS
 refine .d <| .s <| .g <| .r 1 <| .lb V <| .cl (c_spec_l11Of d.names h3.ta p0 p1 (w := bZ) (F := all)) ?_
 rintro dI dJ ⟨⟨_, rfl, ⟨b6, dK, b7, b8, dL, b9, rfl, aj, ak⟩⟩, bo⟩
 have aT := al2 O.lt V.lt
 have bq : Gb w.heap.size bZ.heap.size := C.size
 replace ⟨h1, h2, h3, V, O, C⟩ := (se [ae, ac] bo).g6 h1 h2 h3 V O C
 clear bo
 have aj := aj.fr aT bq
 replace aj := aj.base (G' := fo F w.heap.size) (fun _ _ h => .inr h)
 have dr := aj.max
 have ak := ak.fr aT bq
 replace ak := ak.base (G' := fo F w.heap.size) (fun _ _ h => .inr h)
 have dt := ak.max
 clear aT
 have cd := aj.len
 subst cd
 have ce := ak.len
 subst ce
 refine .ns 0 68 [] fun ao cK aA br cg ci => ?_
 have cj := nb_new aA V.lt
 have ck := nb_new aA O.lt
 have cm := gb_new aA C.size
 have co := C.cn aA
 replace ⟨h1, h2, h3, V, O, aj, ak, C⟩ := (sn [ae, ac] br aA).g8 h1 h2 h3 V O aj ak C
 clear br ci aA
 have aq : Own (α := Prt) cK ao 68 (nin (fo F w.heap.size) [ao, ae, ac]) 0 0 [] := Own.nil' cg
 refine .ns 0 62 [] fun av cL aw bt cp cq => ?_
 have cr := nb_new aw V.lt
 have cu := nb_new aw O.lt
 have cv := nb_new aw aq.lt
 have cw := gb_new aw C.size
 have du := C.cn aw
 replace ⟨h1, h2, h3, V, O, aj, ak, aq, C⟩ := (sn [ao, ae, ac] bt aw).g9 h1 h2 h3 V O aj ak aq C
 clear bt cq aw
 have aB : Own (α := Smp) cL av 62 (nin (fo F w.heap.size) [av, ao, ae, ac]) 0 0 [] := Own.nil' cp
 refine .r 1 <| .np 30 [.slice none 0 0, .slice none 0 0, .slice none 0 0, .slice none 0 0] fun af dM ax bu cx cy => ?_
 have dv := nb_new ax V.lt
 have dw := nb_new ax O.lt
 have cz := nb_new ax aq.lt
 have cA := nb_new ax aB.lt
 have dx := C.cn ax
 replace ⟨h1, h2, h3, V, O, aj, ak, aq, aB, C⟩ := (sn [av, ao, ae, ac] bu ax).g10 h1 h2 h3 V O aj ak aq aB C
 clear bu cy ax
 refine .sc [.slice b6 (((idxOf d.names).names).length) b7, .slice b8 (((idxOf d.names).posts).length) b9, vS ao 0 0, vS av 0 0] cx fun aO bv aU cB => ?_
 replace ⟨h1, h2, h3, V, O, aj, ak, aq, aB, C⟩ := (so [af, av, ao, ae, ac] bv).g10 h1 h2 h3 V O aj ak aq aB C
 clear bv cB
 refine .d <| .s <| .s <| .g <| .r 1 <| .d <| .b 0 <| T.loop (X := Nat × (List (List Tag)) × (Option Addr) × Nat × Nat × (List Pst) × (Option Addr) × Nat × Nat × (List Prt) × Nat × Nat × Nat × (List Smp) × Nat × Nat × Nat) (0, ((idxOf d.names).names : List (List Tag)), b6, ((idxOf d.names).names).length, b7, ((idxOf d.names).posts : List Pst), b8, ((idxOf d.names).posts).length, b9, ([] : List Prt), ao, 0, 0, ([] : List Smp), av, 0, 0) (fun (i, aG, a_s_0, n_s_0, c_s_0, aH, a_s_1, n_s_1, c_s_1, aC, r_s_2, n_s_2, c_s_2, aI, r_s_3, n_s_3, c_s_3) => [(1, .pointer (some ⟨ac, 0, none⟩)), (2, .pointer (some ⟨ae, 0, none⟩)), (3, .pointer (some ⟨af, 0, none⟩)), (4, vI (i : Int))]) (fun (i, aG, a_s_0, n_s_0, c_s_0, aH, a_s_1, n_s_1, c_s_1, aC, r_s_2, n_s_2, c_s_2, aI, r_s_3, n_s_3, c_s_3) ay => Chg (ins [ao, av, af]) aO ay ∧ Own ay r_s_2 68 (nin (fo F w.heap.size) [af, r_s_3, r_s_2, ae, ac]) n_s_2 c_s_2 aC ∧ OrB r_s_2 ao aO.heap.size ∧ Own ay r_s_3 62 (nin (fo F w.heap.size) [af, r_s_3, r_s_2, ae, ac]) n_s_3 c_s_3 aI ∧ OrB r_s_3 av aO.heap.size ∧ Nb r_s_3 r_s_2 ∧ RepS ay (nin (fo F w.heap.size) [af, r_s_3, r_s_2, ae, ac]) a_s_0 n_s_0 c_s_0 aG ∧ RepS ay (nin (fo F w.heap.size) [af, r_s_3, r_s_2, ae, ac]) a_s_1 n_s_1 c_s_1 aH ∧ Box ay af 30 [.slice a_s_0 n_s_0 c_s_0, .slice a_s_1 n_s_1 c_s_1, vS r_s_2 n_s_2 c_s_2, vS r_s_3 n_s_3 c_s_3] ∧ (i ≤ d.list.length) ∧ (aG = d.names) ∧ (aH = postsOf d.names) ∧ (aI = []) ∧ (aC.length ≤ i) ∧ (aC ++ (d.list.drop i).map (partNo d) = d.list.map (partNo d))) (fun (i, aG, a_s_0, n_s_0, c_s_0, aH, a_s_1, n_s_1, c_s_1, aC, r_s_2, n_s_2, c_s_2, aI, r_s_3, n_s_3, c_s_3) => d.list.length - i) (by kernel_rfl) ⟨by kernel_rfl, by kernel_rfl, by kernel_rfl, by kernel_rfl, trivial⟩ ⟨Chg.refl _ _, aq, orb_refl, aB, orb_refl, cv, aj, ak, aU, (by first | rfl | simp), (by first | rfl | simp), (by first | rfl | simp), (by first | rfl | simp), (by first | rfl | simp), (by first | rfl | simp)⟩ ?_
 rintro ⟨i, aG, a_s_0, n_s_0, c_s_0, aH, a_s_1, n_s_1, c_s_1, aC, r_s_2, n_s_2, c_s_2, aI, r_s_3, n_s_3, c_s_3⟩ dy ay ⟨Z, ab, ag, W, au, bB, E, J, aa, cM, cN, cO, cP, cQ, cR⟩ aP
 have aJ := nb_or' ag cj V.lt
 have cS := nb_or' ag ck O.lt
 have aV := nb_or' ag (Nb.symm cz) aU.lt
 have bC := gb_or' ag cm C.size
 have cT := cov_or' ag co C.size
 have aK := nb_or' au cr V.lt
 have cU := nb_or' au cu O.lt
 have bD := nb_or' au (Nb.symm cA) aU.lt
 have bE := gb_or' au cw C.size
 have bF : Cov (ins [ao, av, af]) aO ao := ⟨.inl (.head _)⟩
 have cV : Cov (ins [ao, av, af]) aO af := ⟨.inl (.tail _ (.tail _ (.head _)))⟩
 have cW := cov_or' ag bF (Nat.le_refl _)
 have aW : Mv [af, av, ao, ae, ac] [af, r_s_3, r_s_2, ae, ac] aO ay := Mv.inl Z (all_cons (.tail _ (.tail _ (.head _))) (all_cons (.tail _ (.head _)) (all_cons (.head _) all_nil))) (all_cons (.inl (.head _)) (all_cons (orb_mem au (.tail _ (.head _))) (all_cons (orb_mem ag (.tail _ (.tail _ (.head _)))) (all_cons (.inl (.tail _ (.tail _ (.tail _ (.head _))))) (all_cons (.inl (.tail _ (.tail _ (.tail _ (.tail _ (.head _)))))) all_nil)))))
 replace ⟨h1, h2, h3, V, O, C⟩ := (sp aW Z).g6 h1 h2 h3 V O C
 clear aW
 have cX := ab.len; have cY := ab.max
 have cZ := W.len; have c7 := W.max
 have c8 := E.len; have c9 := E.max
 have da := J.len; have db := J.max
 refine .s <| .s <| .g <| .r 2 <| .lb V <| .r 1 <| .bp ((i : Int) < (d.list.length : Int)) (fun bG => ?_) (fun bG => ?_)
 · refine .d <| .ct <| .sk <| .s <| .b 1 ?_
   replace h1 := h1.into
   replace h2 := h2.into
   replace h3 := h3.into
   replace E := E.into
   replace J := J.into
   have aL : Gb (ac + 1) ay.heap.size := V.lt
   have bH : Gb (af + 1) ay.heap.size := aa.lt
   refine .gd (mtb [r_s_2, r_s_3] ay.heap.size) 15 fun dz aX => ?_
   replace ⟨h1, h2, h3, V, O, ab, W, aa, E, J, C, Z⟩ := (se [af, r_s_3, r_s_2, ae, ac] aX).g12 h1 h2 h3 V O ab W aa E J C Z
   clear aX
   refine .r [0] <| .lb 1 aa (nS_of (all_cons (Nb.symm aV) (all_cons (Nb.symm bD) all_nil)) bH) <| .r [2] <| .lb 3 V (nS_of (all_cons (Nb.symm aJ) (all_cons (Nb.symm aK) all_nil)) aL) <| .ln 4 V (nS_of (all_cons (Nb.symm aJ) (all_cons (Nb.symm aK) all_nil)) aL) <| .r [5] <| .lb 6 V (nS_of (all_cons (Nb.symm aJ) (all_cons (Nb.symm aK) all_nil)) aL) <| .r [7] ?_
   have aY : i < d.list.length := (by first | omega | exact numAt_idx p3 (by assumption) | exact numAt_nat p3 (by assumption))
   refine GA.idx (i := 8) i (len := d.list.length) (z := (i : Int)) (sz := 1) (by kernel_rfl) (by first | omega | exact numAt_idx p3 (by assumption) | exact numAt_nat p3 (by assumption)) aY (h2.addr (Nat.zero_lt_of_lt aY)) ?_
   obtain ⟨az, aD⟩ : ∃ y, d.list[i]? = some y := ⟨_, List.getElem?_eq_getElem (by first | omega | exact numAt_idx p3 (by assumption) | exact numAt_nat p3 (by assumption))⟩
   have dd := drop_at aD; have cC := List.mem_of_getElem? aD
   obtain ⟨_, rfl, bI⟩ := h2.elem i az aD
   refine .lh 9 0 bI (h2.nS (pos_of aD) (all_cons (.tail _ (.tail _ (.head _))) (all_cons (.tail _ (.head _)) all_nil))) <| GA.call1 (i := 10) (by kernel_rfl) (fun cD aM => c_spec_l21At d az (h1.chgS aM (all_cons (.tail _ (.tail _ (.head _))) (all_cons (.tail _ (.head _)) all_nil))) (h2.chgS aM (all_cons (.tail _ (.tail _ (.head _))) (all_cons (.tail _ (.head _)) all_nil))) (h3.chgS aM (all_cons (.tail _ (.tail _ (.head _))) (all_cons (.tail _ (.head _)) all_nil))) (w := cD) (F := all)) ?_
   have aZ : (numAt d az).toNat < d.files.length := (by first | omega | exact numAt_idx p3 (by assumption) | exact numAt_nat p3 (by assumption))
   refine GA.idx (i := 11) ((numAt d az).toNat) (len := d.files.length) (z := numAt d az) (sz := 3) (by kernel_rfl) (by first | omega | exact numAt_idx p3 (by assumption) | exact numAt_nat p3 (by assumption)) aZ (h1.addr (Nat.zero_lt_of_lt aZ)) <| .r [12] ?_
   obtain ⟨aF, aE⟩ : ∃ y, d.files[(numAt d az).toNat]? = some y := ⟨_, List.getElem?_eq_getElem (by first | omega | exact numAt_idx p3 (by assumption) | exact numAt_nat p3 (by assumption))⟩
   have de := drop_at aE; have cE := List.mem_of_getElem? aE
   obtain ⟨_, ⟨cF, dA, cG, cH, dB, cI, rfl, ah, ai⟩, bJ⟩ := h1.elem ((numAt d az).toNat) aF aE
   have bK := ah.len
   subst bK
   have df := ah.max
   have bL := ai.len
   subst bL
   have dg := ai.max
   refine .lg 13 1 bJ (h1.nS (pos_of aE) (all_cons (.tail _ (.tail _ (.head _))) (all_cons (.tail _ (.head _)) all_nil))) <| .go 14 <| .ns 1 68 [.slice cF aF.part.ids.length cG, .slice cH aF.part.blocks.length cI] fun dC ba => ?_
   replace ⟨V, O, ab, W, aa, E, J, ah, ai, C, Z⟩ := (se [af, r_s_3, r_s_2, ae, ac] ba).g11 V O ab W aa E J ah ai C Z
   clear ba
   intro bw dD al bb aN bM
   have bN := nb_new al V.lt
   have bO := nb_new al O.lt
   have bc := nb_new al ab.lt
   have bP := nb_new al W.lt
   have bQ := nb_new al aa.lt
   have bR := gb_new al C.size
   replace ⟨O, ab, W, aa, E, J, ah, ai, C, Z⟩ := (se [af, r_s_3, r_s_2, ae, ac] bb).g10 O ab W aa E J ah ai C Z
   clear bb bM al
   refine .d fun dE bd => ?_
   replace ⟨O, ab, W, aa, E, J, ah, ai, aN, C, Z⟩ := (se [af, r_s_3, r_s_2, ae, ac] bd).g11 O ab W aa E J ah ai aN C Z
   clear bd
   replace E := E.outof
   replace J := J.outof
   replace ah := ah.outof
   replace ai := ai.outof
   have aQ : nin (fo F w.heap.size) [af, r_s_3, r_s_2, ae, ac] bw ∧ bw ≠ r_s_2 := hap_mk (.inr bR) (all_cons bQ (all_cons bP (all_cons bc (all_cons bO (all_cons bN all_nil))))) bc
   refine RG.append1 (T := 27) (ty := 27) (y := aF.part) ab aN (by kernel_rfl) (by kernel_rfl) ⟨_, _, _, _, _, _, rfl, ah.oi, ai.oi⟩ aQ (by omega) fun bg bz dF am ar bh => ?_
   have bS := nb_or ar (Nb.symm bB) W.lt
   have dh := nb_or ar aV aa.lt
   have bT := orb_or ar ag Z.size
   replace ⟨O, W, aa, E, J, C, Z⟩ := (sa [af, r_s_3, r_s_2, ae, ac] bh ar).g7 O W aa E J C Z
   clear bh
   replace am := am.rn r_s_2
   clear ar
   have di := am.len; have dj := am.max
   refine .r 1 <| .ss 2 (vS bg (n_s_2 + 1) bz) aa fun dG bi bU bV => ?_
   replace ⟨O, am, W, E, J, C, Z⟩ := (so [af, r_s_3, bg, ae, ac] bi).g7 O am W E J C Z
   clear bi bV
   exact .d <| .ib 1 <| .g <| .r 1 <| .it ((i : Int) + 1) <| .r 1 <| .d <| aP (i + 1, aG, a_s_0, n_s_0, c_s_0, aH, a_s_1, n_s_1, c_s_1, (aC ++ [aF.part]), bg, n_s_2 + 1, bz, aI, r_s_3, n_s_3, c_s_3) _ _ ⟨by kernel_rfl, by kernel_rfl, by kernel_rfl, by kernel_rfl, trivial⟩ ⟨Z, am, bT, W, au, (Nb.symm bS), E, J, bU, (by omega), (by assumption), (by assumption), (by assumption), (by simp; omega), (by exact mapStep (by assumption) (by assumption) (partNo_at (by assumption)).symm)⟩ (by first | omega | (simp only []; omega))
 refine .d <| .cf <| .x 0 rfl <| .s <| .g <| .ln aa <| .sc [.slice a_s_0 n_s_0 c_s_0, .slice a_s_1 n_s_1 c_s_1, vS r_s_2 n_s_2 c_s_2, vS r_s_3 n_s_3 c_s_3] O fun bA bj bW bX => ?_
 replace ⟨ab, W, E, J, C⟩ := (so [af, r_s_3, r_s_2, ae, ac] bj).g5 ab W E J C
 clear bj bX
 refine .d ?_
 have bk := ab.sl (.inr bC)
 replace ⟨W, E, J⟩ := (sd bA [af, r_s_3, r_s_2, ae, ac] r_s_2).g3 W E J
 have cJ := W.sl (.inr bE)
 replace ⟨bk, E, J⟩ := (sd bA [af, r_s_3, ae, ac] r_s_3).g3 bk E J
 exact .rb Tryz.func120 Tryz.results120 bW ⟨(VS.of (y := (⟨(⟨aG, aH⟩ : Idx), aC, aI⟩ : Sto)) ⟨_, rfl, ⟨_, _, _, _, _, _, _, _, _, _, _, _, rfl, E.w1, J.w1, bk.w1, cJ.w1⟩⟩ (by have q1 : aC = _ := mapEnd (by assumption) (by omega); subst_vars; rfl)), C⟩
theorem c_spec_l21Copy (d : Dsk) {w : World} {F : Nat → Prop} {a1 : Option Addr} {n1 c1 : Nat} (h1 : RepS w F a1 n1 c1 d.files) {a2 : Option Addr} {n2 c2 : Nat} (h2 : RepS w F a2 n2 c2 d.list) {a3 : Option Addr} {n3 c3 : Nat} (h3 : RepS w F a3 n3 c3 d.names) (p0 : d.names.length ≤ 1000) (p1 : ∀ n ∈ d.names, n.length ≤ 1000) (p2 : d.list.length ≤ 1000) (p3 : d.files.length ≤ 1000) (p4 : ∀ f ∈ d.files, PrtSz f.part) : Calls Tryz.prog 97 [.agg #[.slice a1 n1 c1, .slice a2 n2 c2, .slice a3 n3 c3, .int .i64 d.next]].toArray w (rets fun rv w' => (∃ (r0 n0 c0 : Nat) (r1 n1 c1 : Nat) (r2 n2 c2 : Nat), rv = .agg #[.slice (some ⟨r0, 0, none⟩) n0 c0, .slice (some ⟨r1, 0, none⟩) n1 c1, .slice (some ⟨r2, 0, none⟩) n2 c2, .int .i64 (((copyD d)).next)] ∧ Own w' r0 165 (nin (ge w.heap.size) [r0, r1, r2]) n0 c0 (((copyD d)).files) ∧ w.heap.size ≤ r0 ∧ Own w' r1 3 (nin (ge w.heap.size) [r0, r1, r2]) n1 c1 (((copyD d)).list) ∧ w.heap.size ≤ r1 ∧ Nb r1 r0 ∧ Own w' r2 31 (nin (ge w.heap.size) [r0, r1, r2]) n2 c2 (((copyD d)).names) ∧ w.heap.size ≤ r2 ∧ Nb r2 r0 ∧ Nb r2 r1) ∧ Ext w w') := by
 refine goT Tryz.func97 ?_
 obtain ⟨rfl, cJ, h1⟩ := h1.tp
 obtain ⟨rfl, cK, h2⟩ := h2.tp
 obtain ⟨rfl, cL, h3⟩ := h3.tp
 refine .s <| .g <| .np 51 [.slice a1 d.files.length c1, .slice a2 d.list.length c2, .slice a3 d.names.length c3, vI d.next] fun W dj bd aK E bU => ?_
 replace ⟨h1, h2, h3⟩ := (sn [] aK bd).g3 h1 h2 h3
 have C := aK
 clear aK bU bd
 refine .np 51 [.slice none 0 0, .slice none 0 0, .slice none 0 0, vI 0] fun aa dk aL bg J bV => ?_
 have cM := C.cn aL
 replace ⟨h1, h2, h3, E, C⟩ := (sn [W] bg aL).g5 h1 h2 h3 E C
 clear bg bV aL
 refine .d <| .s <| .g <| .ns 0 165 [] fun aw aM aq bh bW bX => ?_
 have bY := nb_new aq E.lt
 have bZ := nb_new aq J.lt
 have b0 := gb_new aq C.size
 have b6 := C.cn aq
 replace ⟨h1, h2, h3, E, J, C⟩ := (sn [aa, W] bh aq).g6 h1 h2 h3 E J C
 clear bh bX aq
 have b7 : Own (α := Fil) aM aw 165 (nin (ge w.heap.size) [aw, aa, W]) 0 0 [] := Own.nil' bW
 refine .r 1 <| .d <| .s <| .s <| .g <| .r 1 <| .d <| .b 0 <| T.loop (X := (List Fil) × Nat × Nat × Nat × Nat) (([] : List Fil), aw, 0, 0, 0) (fun (files, r_files, n_files, c_files, i) => [(1, .pointer (some ⟨W, 0, none⟩)), (2, .pointer (some ⟨aa, 0, none⟩)), (3, vS r_files n_files c_files), (4, vI (i : Int))]) (fun (files, r_files, n_files, c_files, i) ai => Chg (ins [aw]) aM ai ∧ Own ai r_files 165 (nin (ge w.heap.size) [r_files, aa, W]) n_files c_files files ∧ OrB r_files aw aM.heap.size ∧ (i ≤ d.files.length) ∧ (files.length ≤ i) ∧ (files ++ (d.files.drop i).map copyF = d.files.map copyF)) (fun (files, r_files, n_files, c_files, i) => d.files.length - i) (by kernel_rfl) ⟨by kernel_rfl, by kernel_rfl, by kernel_rfl, by kernel_rfl, trivial⟩ ⟨Chg.refl _ _, b7, orb_refl, (by simp), (by simp), (by simp)⟩ ?_
 rintro ⟨files, r_files, n_files, c_files, i⟩ dm ai ⟨Z, O, aj, cN, cO, cP⟩ aN
 have ax := nb_or' aj bY E.lt
 have cQ := nb_or' aj bZ J.lt
 have b8 := gb_or' aj b0 C.size
 have cR := cov_or' aj b6 C.size
 have b9 : Cov (ins [aw]) aM aw := ⟨.inl (.head _)⟩
 have cS := cov_or' aj b9 (Nat.le_refl _)
 have bi : Mv [aw, aa, W] [r_files, aa, W] aM ai := Mv.inl Z (all_cons (.head _) all_nil) (all_cons (orb_mem aj (.head _)) (all_cons (.inl (.tail _ (.head _))) (all_cons (.inl (.tail _ (.tail _ (.head _)))) all_nil)))
 replace ⟨h1, h2, h3, E, J, C⟩ := (sp bi Z).g6 h1 h2 h3 E J C
 clear bi
 have cT := O.len; have cU := O.max
 refine .s <| .s <| .g <| .r 2 <| .lb E <| .r 1 <| .bp ((i : Int) < (d.files.length : Int)) (fun cd => ?_) (fun cd => ?_)
 · refine .d <| .ct <| .sk <| .s <| .b 1 ?_
   replace h1 := h1.into
   replace h2 := h2.into
   replace h3 := h3.into
   have bj : Gb (W + 1) ai.heap.size := E.lt
   refine .gd (mtb [r_files] ai.heap.size) 17 fun dp bk => ?_
   replace ⟨h1, h2, h3, E, J, O, C, Z⟩ := (se [r_files, aa, W] bk).g8 h1 h2 h3 E J O C Z
   clear bk
   refine .r [0, 1] <| .lb 2 E (nS_of (all_cons (Nb.symm ax) all_nil) bj) <| .r [3] ?_
   have ce : i < d.files.length := (by omega)
   refine .ix 4 i 3 h1 ce <| .r [5] ?_
   obtain ⟨ak, ay⟩ : ∃ y, d.files[i]? = some y := ⟨_, List.getElem?_eq_getElem (by omega)⟩
   have cV := drop_at ay; have cw := List.mem_of_getElem? ay
   obtain ⟨_, ⟨dq, dr, dt, du, dv, dw, rfl, bt, bu⟩, bm⟩ := h1.elem i ak ay
   have cg := bt.len
   subst cg
   have cW := bt.max
   have ci := bu.len
   subst ci
   have cX := bu.max
   refine .lh 6 0 bm (h1.nS (pos_of ay) (all_cons (.head _) all_nil)) <| .r [7] <| .lb 8 E (nS_of (all_cons (Nb.symm ax) all_nil) bj) <| .r [9] ?_
   have cj : i < d.files.length := (by omega)
   refine .ix 10 i 3 h1 cj <| .r [11] <| .lg 12 1 bm (h1.nS (pos_of ay) (all_cons (.head _) all_nil)) <| .r [13] <| .go 14 <| .cl (fun bv ar => c_spec_l12Merge ak.part (⟨([] : List Int), ([] : List (List Row))⟩ : Prt) (bt.ta.ext ar) (bu.ta.ext ar) ((RepS.nil' _ all none 0 (by decide)).ext ar) ((RepS.nil' _ all none 0 (by decide)).ext ar) (p4 _ (by assumption)) (by simp [PrtSz]) (w := bv) (F := all)) ?_
   intro bv ar
   replace ⟨h2, h3, E, J, O, C, Z⟩ := (se [r_files, aa, W] ar).g7 h2 h3 E J O C Z
   rintro dx dy ⟨⟨_, rfl, ⟨ck, cY, cm, co, cZ, cp, rfl, ac, ae⟩⟩, aO⟩
   have az := al3 O.lt J.lt E.lt
   have aP : Gb w.heap.size bv.heap.size := C.size
   have hkeep_ := aO
   replace ⟨h2, h3, E, J, O, C, Z⟩ := (se [r_files, aa, W] aO).g7 h2 h3 E J O C Z
   clear aO
   refine ⟨Ext.chg hkeep_, ?_⟩
   have ac := ac.fr az aP
   have cx := ac.max
   have ae := ae.fr az aP
   have cy := ae.max
   clear az
   have bw := ac.len
   subst bw
   have bz := ae.len
   subst bz
   refine .r [15] <| .go 16 <| .ns 1 165 [vI ak.num, .slice ck (((pMerge ak.part (⟨([] : List Int), ([] : List (List Row))⟩ : Prt)).ids).length) cm, .slice co (((pMerge ak.part (⟨([] : List Int), ([] : List (List Row))⟩ : Prt)).blocks).length) cp] fun c7 aQ => ?_
   replace ⟨h2, h3, E, J, O, ac, ae, C, Z⟩ := (se [r_files, aa, W] aQ).g9 h2 h3 E J O ac ae C Z
   clear aQ
   intro bn c8 al aR aA bA
   have bB := nb_new al E.lt
   have bC := nb_new al J.lt
   have aS := nb_new al O.lt
   have bD := gb_new al C.size
   replace ⟨h2, h3, E, J, O, ac, ae, C, Z⟩ := (se [r_files, aa, W] aR).g9 h2 h3 E J O ac ae C Z
   clear aR bA al
   refine .d fun c9 aT => ?_
   replace ⟨h2, h3, E, J, O, ac, ae, aA, C, Z⟩ := (se [r_files, aa, W] aT).g10 h2 h3 E J O ac ae aA C Z
   clear aT
   replace h2 := h2.outof
   replace h3 := h3.outof
   have aJ : nin (ge w.heap.size) [r_files, aa, W] bn ∧ bn ≠ r_files := hap_mk bD (all_cons aS (all_cons bC (all_cons bB all_nil))) aS
   refine RG.append1 (T := 48) (ty := 48) (y := (⟨ak.num, (⟨(pMerge ak.part (⟨([] : List Int), ([] : List (List Row))⟩ : Prt)).ids, (pMerge ak.part (⟨([] : List Int), ([] : List (List Row))⟩ : Prt)).blocks⟩ : Prt)⟩ : Fil)) O aA (by kernel_rfl) (by kernel_rfl) ⟨_, _, _, _, _, _, rfl, ac.oi, ae.oi⟩ aJ (by first | omega | (simp; omega)) fun cq cr da am av aU => ?_
   have bE := orb_or av aj Z.size
   replace ⟨h2, h3, E, J, C, Z⟩ := (sa [r_files, aa, W] aU av).g6 h2 h3 E J C Z
   clear aU
   replace am := am.rn r_files
   clear av
   have cz := am.len; have cA := am.max
   exact .r 1 <| .d <| .ib 1 <| .g <| .r 1 <| .it ((i : Int) + 1) <| .r 1 <| .d <| aN ((files ++ [(⟨ak.num, (⟨(pMerge ak.part (⟨([] : List Int), ([] : List (List Row))⟩ : Prt)).ids, (pMerge ak.part (⟨([] : List Int), ([] : List (List Row))⟩ : Prt)).blocks⟩ : Prt)⟩ : Fil)]), cq, n_files + 1, cr, i + 1) _ _ ⟨by kernel_rfl, by kernel_rfl, by kernel_rfl, by kernel_rfl, trivial⟩ ⟨Z, am, bE, (by omega), (by simp; omega), (by exact mapStep (by assumption) (by assumption) rfl)⟩ (by first | omega | (simp only []; omega))
 refine .d <| .cf <| .x 0 rfl <| .s ?_
 replace h2 := h2.into
 replace h3 := h3.into
 have aB : Gb (W + 1) ai.heap.size := E.lt
 refine .gd (mtb [r_files] ai.heap.size) 10 fun cu aC => ?_
 replace ⟨h2, h3, E, J, O, C⟩ := (se [r_files, aa, W] aC).g6 h2 h3 E J O C
 have aD : Chg (mtb [r_files] ai.heap.size) ai cu := Chg.stepN (Chg.refl (mtb [r_files] ai.heap.size) ai) aC
 clear aC
 refine .r [0, 2] <| .lb 3 E (nS_of (all_cons (Nb.symm ax) all_nil) aB) <| .r [5] <| .lb 6 E (nS_of (all_cons (Nb.symm ax) all_nil) aB) <| .r [8] <| .lb 9 E (nS_of (all_cons (Nb.symm ax) all_nil) aB) <| .go 1 <| .ns 0 3 [] fun db aV => ?_
 replace ⟨h2, h3, E, J, O, C, aD⟩ := (se [r_files, aa, W] aV).g7 h2 h3 E J O C aD
 clear aV
 intro au cv af aW bF bG
 have cB := nb_new af E.lt
 have bH := nb_new af J.lt
 have bI := nb_new af O.lt
 have bJ := gb_new af C.size
 have cC := C.cn af
 have bK := aD.cn af
 replace ⟨h2, h3, E, J, O, C⟩ := (sn [r_files, aa, W] aW af).g6 h2 h3 E J O C
 clear aW bG af
 have aE : Own (α := Int) cv au 3 (nin (ge w.heap.size) [au, r_files, aa, W]) 0 0 [] := Own.nil' bF
 refine .go 4 <| GE.append (T := 49) (ty := 49) (args := [vS au 0 0, .slice a2 d.list.length c2]) (by kernel_rfl) fun dd aX => ?_
 replace ⟨h2, h3, E, J, O, aE, C⟩ := (se [au, r_files, aa, W] aX).g7 h2 h3 E J O aE C
 clear aX
 obtain ⟨ao, bo, de, aY, V, ag, aF, bL⟩ := Own.appendF (P := Tryz.prog) (T := 49) (ty := 49) flat_int aE (by kernel_rfl) h2 (fun b h e => h.2 (e ▸ (.head _))) (by first | omega | (simp; omega))
 refine ⟨_, _, aY, Chg.toS aF (Cov.toS bK), ?_⟩
 clear bL
 have cD := nb_or ag bH J.lt
 have bM := nb_or ag bI O.lt
 have bN := gb_or ag bJ C.size
 replace ⟨h3, E, J, O, C⟩ := (sa [au, r_files, aa, W] aF ag).g5 h3 E J O C
 clear aF
 replace V := V.rn au
 clear ag
 have cE := V.len; have cF := V.max
 refine .go 7 <| .cl (fun aZ aG => c_spec_l11Names d.names (h3.ta.ext aG) (by omega) (by intro n hn; have := p1 n hn; omega) (w := aZ) (F := all)) ?_
 intro aZ aG
 replace ⟨E, J, O, V, C⟩ := (se [ao, r_files, aa, W] aG).g5 E J O V C
 rintro df dg ⟨⟨aI, bq, br, rfl, ab, ah⟩, aH⟩
 have ba := al4 V.lt O.lt J.lt E.lt
 have bO : Gb w.heap.size aZ.heap.size := C.size
 have hkeep_ := aH
 have cG := nb_ge ah J.lt
 have bP := nb_ge ah O.lt
 have bQ := nb_ge ah V.lt
 have bR := gb_ge ah C.size
 replace ⟨J, O, V, C⟩ := (sz [ao, r_files, aa, W] aH ah).g4 J O V C
 clear aH ah
 refine ⟨Ext.chg hkeep_, ?_⟩
 replace ab := Own.take (s0 := w.heap.size) (M := [ao, r_files, aa, W]) ab ba bO
 have cH := ab.len; have cI := ab.max
 clear ba
 refine .d fun dh bb => ?_
 replace ⟨J, O, V, ab, C⟩ := (se [aI, ao, r_files, aa, W] bb).g5 J O V ab C
 clear bb
 refine .r 1 <| .sc [vS r_files n_files c_files, vS ao (0 + d.list.length) bo, vS aI bq br, vI d.next] J fun di bc bS bT => ?_
 replace ⟨O, V, ab, C⟩ := (so [aI, ao, r_files, aa, W] bc).g4 O V ab C
 clear bc bT
 exact .d <| .rb Tryz.func97 Tryz.results97 bS ⟨⟨r_files, n_files, c_files, ao, (0 + d.list.length), bo, aI, bq, br, rfl, ((Own.lessM O (all_cons (.tail _ (.tail _ (.head _))) (all_cons (.tail _ (.head _)) (all_cons (.head _) all_nil)))).eqx (by exact mapEnd (by assumption) (by omega))), b8, ((Own.lessM V (all_cons (.tail _ (.tail _ (.head _))) (all_cons (.tail _ (.head _)) (all_cons (.head _) all_nil)))).eqx (by rfl)), bN, bM, ((Own.lessM ab (all_cons (.tail _ (.tail _ (.head _))) (all_cons (.tail _ (.head _)) (all_cons (.head _) all_nil)))).eqx (by rfl)), bR, bP, bQ⟩, C⟩
theorem c_spec_l21Do (d : Dsk) (x : Stp) {w : World} {F : Nat → Prop} {a1 : Option Addr} {n1 c1 : Nat} (h1 : RepS w F a1 n1 c1 d.files) {a2 : Option Addr} {n2 c2 : Nat} (h2 : RepS w F a2 n2 c2 d.list) {a3 : Option Addr} {n3 c3 : Nat} (h3 : RepS w F a3 n3 c3 d.names) {a4 : Option Addr} {n4 c4 : Nat} (h4 : RepS w F a4 n4 c4 x.part.ids) {a5 : Option Addr} {n5 c5 : Nat} (h5 : RepS w F a5 n5 c5 x.part.blocks) {a6 : Option Addr} {n6 c6 : Nat} (h6 : RepS w F a6 n6 c6 x.list) {a7 : Option Addr} {n7 c7 : Nat} (h7 : RepS w F a7 n7 c7 x.names) (p0 : d.files.length ≤ 2000) (p1 : d.list.length ≤ 2000) (p2 : StpSz x) : Calls Tryz.prog 128 [.agg #[.slice a1 n1 c1, .slice a2 n2 c2, .slice a3 n3 c3, .int .i64 d.next], .agg #[.int .i64 x.kind, .int .i64 x.num, .slice a4 n4 c4, .slice a5 n5 c5, .slice a6 n6 c6, .slice a7 n7 c7]].toArray w (rets fun rv w' => VS (fo F w.heap.size) w' (doD d x : Dsk) rv ∧ Ext w w') := by
 refine goT Tryz.func128 ?_
 obtain ⟨rfl, gw, h1⟩ := h1.tp
 obtain ⟨rfl, gx, h2⟩ := h2.tp
 obtain ⟨rfl, gy, h3⟩ := h3.tp
 obtain ⟨rfl, gz, h4⟩ := h4.tp
 obtain ⟨rfl, gA, h5⟩ := h5.tp
 obtain ⟨rfl, gC, h6⟩ := h6.tp
 obtain ⟨rfl, gD, h7⟩ := h7.tp
 refine .s <| .g <| .np 51 [.slice a1 d.files.length c1, .slice a2 d.list.length c2, .slice a3 d.names.length c3, vI d.next] fun V iu bH bI O e0 => ?_
 have gE : Cov nil w V := cov_new bH (Nat.le_refl _)
 replace ⟨h1, h2, h3, h4, h5, h6, h7⟩ := (sn [] bI bH).g7 h1 h2 h3 h4 h5 h6 h7
 have C := bI
 clear bI e0 bH
 refine .np 162 [vI x.kind, vI x.num, .slice a4 x.part.ids.length c4, .slice a5 x.part.blocks.length c5, .slice a6 x.list.length c6, .slice a7 x.names.length c7] fun W iw bJ cJ E e7 => ?_
 have gF := nb_new bJ O.lt
 replace ⟨h1, h2, h3, h4, h5, h6, h7, O, C⟩ := (sn [V] cJ bJ).g9 h1 h2 h3 h4 h5 h6 h7 O C
 clear cJ e7 bJ
 refine .np 51 [.slice none 0 0, .slice none 0 0, .slice none 0 0, vI 0] fun Z bb bc cK J e8 => ?_
 have gG := nb_new bc O.lt
 have gH := nb_new bc E.lt
 have gI := C.cn bc
 replace ⟨h1, h2, h3, h4, h5, h6, h7, O, E, C⟩ := (sn [W, V] cK bc).g10 h1 h2 h3 h4 h5 h6 h7 O E C
 clear cK e8 bc
 refine .d <| .s <| .s <| .g <| .r 1 <| .lb E <| .d <| .b 0 <| .s <| .g <| .eq x.kind 1 (fun e9 => ?_) (fun e9 => ?_)
 · refine .r 1 <| .d <| .ct <| .s ?_
   replace h1 := h1.into
   replace h2 := h2.into
   replace h3 := h3.into
   replace h4 := h4.into
   replace h5 := h5.into
   replace h6 := h6.into
   replace h7 := h7.into
   have fa : Gb (V + 1) bb.heap.size := O.lt
   have cL : Gb (W + 1) bb.heap.size := E.lt
   refine .gd (mtb [] bb.heap.size) 10 fun fC bK => ?_
   replace ⟨h1, h2, h3, h4, h5, h6, h7, O, E, J, C⟩ := (se [Z, W, V] bK).g11 h1 h2 h3 h4 h5 h6 h7 O E J C
   have aa : Chg (mtb [] bb.heap.size) bb fC := Chg.stepN (Chg.refl (mtb [] bb.heap.size) bb) bK
   clear bK
   refine .r [1] <| .lb 2 O (nS_of all_nil fa) <| .r [4] <| .lb 5 E (nS_of all_nil cL) <| .r [6] <| .ln 7 E (nS_of all_nil cL) <| .r [8] <| .tw 0 9 ?_ ?_
   · refine .ns 0 165 [] fun iy cM => ?_
     replace ⟨h1, h2, h3, h4, h5, h6, h7, O, E, J, C, aa⟩ := (se [Z, W, V] cM).g12 h1 h2 h3 h4 h5 h6 h7 O E J C aa
     clear cM
     intro ar fD aM cN fb fc
     have cO := nb_new aM O.lt
     have cP := nb_new aM E.lt
     have cQ := nb_new aM J.lt
     have cR := gb_new aM C.size
     have cS := C.cn aM
     have cT := aa.cn aM
     replace ⟨h1, h2, h3, h4, h5, h6, h7, O, E, J, C, aa⟩ := (sn [Z, W, V] cN aM).g12 h1 h2 h3 h4 h5 h6 h7 O E J C aa
     clear cN fc aM
     have au : Own (α := Fil) fD ar 165 (nin (fo F w.heap.size) [ar, Z, W, V]) 0 0 [] := Own.nil' fb
     refine .tw 3 9 ?_ ?_
     · refine GE.append (T := 48) (ty := 48) (args := [vS ar 0 0, .slice a1 d.files.length c1]) (by kernel_rfl) fun iz bL => ?_
       replace ⟨h1, h2, h3, h4, h5, h6, h7, O, E, J, au, C⟩ := (se [ar, Z, W, V] bL).g12 h1 h2 h3 h4 h5 h6 h7 O E J au C
       replace aa := (se [ar, Z, W, V] bL).g1 aa
       clear bL
       obtain ⟨aU, iA, iB, cI, aq, aC, bM, fd⟩ := au.append (P := Tryz.prog) (T := 48) (ty := 48) (by kernel_rfl) (h1.base (fun _ _ h => h.1)) (fun b _ h => own_in (.head _) h) (by have := p2.1; have q1 := numAt_lt d x.num; omega)
       refine ⟨_, _, cI, Chg.toS bM (Cov.toS cT), ?_⟩
       clear fd
       have fe := nb_or aC cO O.lt
       have ff := nb_or aC cP E.lt
       have fg := nb_or aC cQ J.lt
       have fh := gb_or aC cR C.size
       have gJ := cov_or aC cS C.size
       replace ⟨h1, h2, h3, h4, h5, h6, h7, O, E, J, C, aa⟩ := (sa [ar, Z, W, V] bM aC).g12 h1 h2 h3 h4 h5 h6 h7 O E J C aa
       clear bM
       replace aq := aq.rn ar
       clear aC
       have gK := aq.len; have fE := aq.max
       refine .go 9 <| .ns 1 165 [vI x.num, .slice a4 x.part.ids.length c4, .slice a5 x.part.blocks.length c5] fun gL bg => ?_
       replace ⟨h1, h2, h3, h4, h5, h6, h7, O, E, J, aq, C⟩ := (se [aU, Z, W, V] bg).g12 h1 h2 h3 h4 h5 h6 h7 O E J aq C
       replace aa := (se [aU, Z, W, V] bg).g1 aa
       clear bg
       intro cU gM aK bh bi df
       have dg := nb_new aK O.lt
       have dh := nb_new aK E.lt
       have di := nb_new aK J.lt
       have bN := nb_new aK aq.lt
       have dj := gb_new aK C.size
       replace ⟨h1, h2, h3, h4, h5, h6, h7, O, E, J, aq, C⟩ := (se [aU, Z, W, V] bh).g12 h1 h2 h3 h4 h5 h6 h7 O E J aq C
       replace aa := (se [aU, Z, W, V] bh).g1 aa
       clear bh df aK
       refine .d fun gN bj => ?_
       replace ⟨h1, h2, h3, h4, h5, h6, h7, O, E, J, aq, bi⟩ := (se [aU, Z, W, V] bj).g12 h1 h2 h3 h4 h5 h6 h7 O E J aq bi
       replace ⟨C, aa⟩ := (se [aU, Z, W, V] bj).g2 C aa
       clear bj
       replace h1 := h1.outof
       replace h2 := h2.outof
       replace h3 := h3.outof
       replace h4 := h4.outof
       replace h5 := h5.outof
       replace h6 := h6.outof
       replace h7 := h7.outof
       have bE : nin (fo F w.heap.size) [aU, Z, W, V] cU ∧ cU ≠ aU := hap_mk (.inr dj) (all_cons bN (all_cons di (all_cons dh (all_cons dg all_nil)))) bN
       refine RG.append1 (T := 48) (ty := 48) (y := (⟨x.num, (⟨x.part.ids, x.part.blocks⟩ : Prt)⟩ : Fil)) aq bi (by kernel_rfl) (by kernel_rfl) ⟨_, _, _, _, _, _, rfl, h4.oi, h5.oi⟩ bE (by have := p2.1; have q1 := numAt_lt d x.num; omega) fun aN cV gO ag ax bO => ?_
       have fF := nb_or ax fe O.lt
       have fG := nb_or ax ff E.lt
       have fH := nb_or ax fg J.lt
       have dk := gb_or ax fh C.size
       replace ⟨h1, h2, h3, h4, h5, h6, h7, O, E, J, C⟩ := (sa [aU, Z, W, V] bO ax).g11 h1 h2 h3 h4 h5 h6 h7 O E J C
       clear bO
       replace ag := ag.rn aU
       clear ax
       have fI := ag.len; have fJ := ag.max
       refine .r 1 <| .ss 0 (vS aN (0 + d.files.length + 1) cV) O fun gP bP dm dp => ?_
       replace ⟨h1, h2, h3, h4, h5, h6, h7, E, J, ag, C⟩ := (so [aN, Z, W, V] bP).g11 h1 h2 h3 h4 h5 h6 h7 E J ag C
       clear bP dp
       refine .d <| .g <| .r 1 <| .lb E <| RG.int (x.num + 1) (by kernel_rfl) (by have q1 := numAt_lt d x.num; have q2 := p2.2.2.2; omega) <| .r 1 <| .ss 3 (vI (x.num + 1)) dm fun gQ bQ dq dr => ?_
       replace ⟨h1, h2, h3, h4, h5, h6, h7, E, J, ag, C⟩ := (so [aN, Z, W, V] bQ).g11 h1 h2 h3 h4 h5 h6 h7 E J ag C
       clear bQ dr
       refine .d <| .ib 0 <| .s <| .g <| .ln dq <| .sc [vS aN (0 + d.files.length + 1) cV, .slice a2 d.list.length c2, .slice a3 d.names.length c3, vI (x.num + 1)] J fun fi bR dt du => ?_
       replace ⟨h1, h2, h3, h4, h5, h6, h7, E, ag, C⟩ := (so [aN, Z, W, V] bR).g10 h1 h2 h3 h4 h5 h6 h7 E ag C
       clear bR du
       refine .d ?_
       have fj := ag.sl (.inr dk)
       replace ⟨h1, h2, h3, h4, h5, h6, h7⟩ := (sd fi [aN, Z, W, V] aN).g7 h1 h2 h3 h4 h5 h6 h7
       exact .rb Tryz.func128 Tryz.results128 dt ⟨(VS.of (y := (⟨(([] ++ d.files) ++ [(⟨x.num, (⟨x.part.ids, x.part.blocks⟩ : Prt)⟩ : Fil)]), d.list, d.names, x.num + 1⟩ : Dsk)) ⟨_, rfl, ⟨_, _, _, _, _, _, _, _, _, rfl, fj.w1, h2.w1, h3.w1⟩⟩ (by first | (rw [doD_1 (by assumption)]; simp; done) | (rw [doD_2 (by assumption)]; simp; done) | (rw [doD_3 (by assumption), gone_t (by assumption) (by assumption)]; have e1 : (numAt d x.num + 1).toNat = (numAt d x.num).toNat + 1 := (by omega); simp [e1]; done) | (rw [doD_3 (by assumption), gone_f (.inl (by assumption))]) | (rw [doD_3 (by assumption), gone_f (.inr (by assumption))]) | rw [doD_0 (by assumption) (by assumption) (by assumption)])), C⟩
     refine .ns 1 165 [vI x.num, .slice a4 x.part.ids.length c4, .slice a5 x.part.blocks.length c5] fun gR bm => ?_
     replace ⟨h1, h2, h3, h4, h5, h6, h7, O, E, J, au, C⟩ := (se [ar, Z, W, V] bm).g12 h1 h2 h3 h4 h5 h6 h7 O E J au C
     replace aa := (se [ar, Z, W, V] bm).g1 aa
     clear bm
     intro cW gS aL bn av dv
     have dw := nb_new aL O.lt
     have dx := nb_new aL E.lt
     have dy := nb_new aL J.lt
     have dz := nb_new aL au.lt
     have dA := gb_new aL C.size
     replace ⟨h1, h2, h3, h4, h5, h6, h7, O, E, J, au, C⟩ := (se [ar, Z, W, V] bn).g12 h1 h2 h3 h4 h5 h6 h7 O E J au C
     replace aa := (se [ar, Z, W, V] bn).g1 aa
     clear bn dv aL
     refine .go 3 <| GE.append (T := 48) (ty := 48) (args := [vS ar 0 0, .slice a1 d.files.length c1]) (by kernel_rfl) fun gT bo => ?_
     replace ⟨h1, h2, h3, h4, h5, h6, h7, O, E, J, au, av⟩ := (se [ar, Z, W, V] bo).g12 h1 h2 h3 h4 h5 h6 h7 O E J au av
     replace ⟨C, aa⟩ := (se [ar, Z, W, V] bo).g2 C aa
     clear bo
     obtain ⟨aV, gU, gV, bS, aD, af, ba, dB⟩ := au.append (P := Tryz.prog) (T := 48) (ty := 48) (by kernel_rfl) (h1.base (fun _ _ h => h.1)) (fun b _ h => own_in (.head _) h) (by have := p2.1; have q1 := numAt_lt d x.num; omega)
     refine ⟨_, _, bS, Chg.toS ba (Cov.toS cT), ?_⟩
     clear dB
     have dC := nb_or af cO O.lt
     have dD := nb_or af cP E.lt
     have dE := nb_or af cQ J.lt
     have bT := nb_or af (Nb.symm dz) av.lt
     have dF := gb_or af cR C.size
     have fL := cov_or af cS C.size
     replace ⟨h1, h2, h3, h4, h5, h6, h7, O, E, J, av, C⟩ := (sa [ar, Z, W, V] ba af).g12 h1 h2 h3 h4 h5 h6 h7 O E J av C
     replace aa := (sa [ar, Z, W, V] ba af).g1 aa
     clear ba
     replace aD := aD.rn ar
     clear af
     have fM := aD.len; have fN := aD.max
     refine .d fun gW bq => ?_
     replace ⟨h1, h2, h3, h4, h5, h6, h7, O, E, J, aD, av⟩ := (se [aV, Z, W, V] bq).g12 h1 h2 h3 h4 h5 h6 h7 O E J aD av
     replace ⟨C, aa⟩ := (se [aV, Z, W, V] bq).g2 C aa
     clear bq
     replace h1 := h1.outof
     replace h2 := h2.outof
     replace h3 := h3.outof
     replace h4 := h4.outof
     replace h5 := h5.outof
     replace h6 := h6.outof
     replace h7 := h7.outof
     have bF : nin (fo F w.heap.size) [aV, Z, W, V] cW ∧ cW ≠ aV := hap_mk (.inr dA) (all_cons (Nb.symm bT) (all_cons dy (all_cons dx (all_cons dw all_nil)))) (Nb.symm bT)
     refine RG.append1 (T := 48) (ty := 48) (y := (⟨x.num, (⟨x.part.ids, x.part.blocks⟩ : Prt)⟩ : Fil)) aD av (by kernel_rfl) (by kernel_rfl) ⟨_, _, _, _, _, _, rfl, h4.oi, h5.oi⟩ bF (by have := p2.1; have q1 := numAt_lt d x.num; omega) fun aO cX gX ah ay bU => ?_
     have fO := nb_or ay dC O.lt
     have fP := nb_or ay dD E.lt
     have fQ := nb_or ay dE J.lt
     have dG := gb_or ay dF C.size
     replace ⟨h1, h2, h3, h4, h5, h6, h7, O, E, J, C⟩ := (sa [aV, Z, W, V] bU ay).g11 h1 h2 h3 h4 h5 h6 h7 O E J C
     clear bU
     replace ah := ah.rn aV
     clear ay
     have fR := ah.len; have fS := ah.max
     refine .r 1 <| .ss 0 (vS aO (0 + d.files.length + 1) cX) O fun gY bV dH dI => ?_
     replace ⟨h1, h2, h3, h4, h5, h6, h7, E, J, ah, C⟩ := (so [aO, Z, W, V] bV).g11 h1 h2 h3 h4 h5 h6 h7 E J ah C
     clear bV dI
     refine .d <| .g <| .r 1 <| .lb E <| RG.int (x.num + 1) (by kernel_rfl) (by have q1 := numAt_lt d x.num; have q2 := p2.2.2.2; omega) <| .r 1 <| .ss 3 (vI (x.num + 1)) dH fun gZ bW dJ dK => ?_
     replace ⟨h1, h2, h3, h4, h5, h6, h7, E, J, ah, C⟩ := (so [aO, Z, W, V] bW).g11 h1 h2 h3 h4 h5 h6 h7 E J ah C
     clear bW dK
     refine .d <| .ib 0 <| .s <| .g <| .ln dJ <| .sc [vS aO (0 + d.files.length + 1) cX, .slice a2 d.list.length c2, .slice a3 d.names.length c3, vI (x.num + 1)] J fun fk bX dL dM => ?_
     replace ⟨h1, h2, h3, h4, h5, h6, h7, E, ah, C⟩ := (so [aO, Z, W, V] bX).g10 h1 h2 h3 h4 h5 h6 h7 E ah C
     clear bX dM
     refine .d ?_
     have fl := ah.sl (.inr dG)
     replace ⟨h1, h2, h3, h4, h5, h6, h7⟩ := (sd fk [aO, Z, W, V] aO).g7 h1 h2 h3 h4 h5 h6 h7
     exact .rb Tryz.func128 Tryz.results128 dL ⟨(VS.of (y := (⟨(([] ++ d.files) ++ [(⟨x.num, (⟨x.part.ids, x.part.blocks⟩ : Prt)⟩ : Fil)]), d.list, d.names, x.num + 1⟩ : Dsk)) ⟨_, rfl, ⟨_, _, _, _, _, _, _, _, _, rfl, fl.w1, h2.w1, h3.w1⟩⟩ (by first | (rw [doD_1 (by assumption)]; simp; done) | (rw [doD_2 (by assumption)]; simp; done) | (rw [doD_3 (by assumption), gone_t (by assumption) (by assumption)]; have e1 : (numAt d x.num + 1).toNat = (numAt d x.num).toNat + 1 := (by omega); simp [e1]; done) | (rw [doD_3 (by assumption), gone_f (.inl (by assumption))]) | (rw [doD_3 (by assumption), gone_f (.inr (by assumption))]) | rw [doD_0 (by assumption) (by assumption) (by assumption)])), C⟩
   refine .ns 1 165 [vI x.num, .slice a4 x.part.ids.length c4, .slice a5 x.part.blocks.length c5] fun g0 bY => ?_
   replace ⟨h1, h2, h3, h4, h5, h6, h7, O, E, J, C, aa⟩ := (se [Z, W, V] bY).g12 h1 h2 h3 h4 h5 h6 h7 O E J C aa
   clear bY
   intro cY hC aP bZ ac dN
   have dO := nb_new aP O.lt
   have dP := nb_new aP E.lt
   have dQ := nb_new aP J.lt
   have dR := gb_new aP C.size
   replace ⟨h1, h2, h3, h4, h5, h6, h7, O, E, J, C, aa⟩ := (se [Z, W, V] bZ).g12 h1 h2 h3 h4 h5 h6 h7 O E J C aa
   clear bZ dN aP
   refine .go 0 <| .ns 0 165 [] fun hD br => ?_
   replace ⟨h1, h2, h3, h4, h5, h6, h7, O, E, J, ac, C⟩ := (se [Z, W, V] br).g12 h1 h2 h3 h4 h5 h6 h7 O E J ac C
   replace aa := (se [Z, W, V] br).g1 aa
   clear br
   intro aQ fm al b0 dS dT
   have dU := nb_new al O.lt
   have dV := nb_new al E.lt
   have dW := nb_new al J.lt
   have dX := nb_new al ac.lt
   have dY := gb_new al C.size
   have dZ := C.cn al
   have d0 := aa.cn al
   replace ⟨h1, h2, h3, h4, h5, h6, h7, O, E, J, ac, C⟩ := (sn [Z, W, V] b0 al).g12 h1 h2 h3 h4 h5 h6 h7 O E J ac C
   clear b0 dT al
   have bt : Own (α := Fil) fm aQ 165 (nin (fo F w.heap.size) [aQ, Z, W, V]) 0 0 [] := Own.nil' dS
   refine .go 3 <| GE.append (T := 48) (ty := 48) (args := [vS aQ 0 0, .slice a1 d.files.length c1]) (by kernel_rfl) fun hE bu => ?_
   replace ⟨h1, h2, h3, h4, h5, h6, h7, O, E, J, ac, bt⟩ := (se [aQ, Z, W, V] bu).g12 h1 h2 h3 h4 h5 h6 h7 O E J ac bt
   replace C := (se [aQ, Z, W, V] bu).g1 C
   clear bu
   obtain ⟨aW, hH, hJ, b6, aE, ak, bv, d3⟩ := bt.append (P := Tryz.prog) (T := 48) (ty := 48) (by kernel_rfl) (h1.base (fun _ _ h => h.1)) (fun b _ h => own_in (.head _) h) (by have := p2.1; have q1 := numAt_lt d x.num; omega)
   refine ⟨_, _, b6, Chg.toS bv (Cov.toS d0), ?_⟩
   clear d3
   have d4 := nb_or ak dU O.lt
   have d5 := nb_or ak dV E.lt
   have d6 := nb_or ak dW J.lt
   have b7 := nb_or ak dX ac.lt
   have d7 := gb_or ak dY C.size
   have fT := cov_or ak dZ C.size
   replace ⟨h1, h2, h3, h4, h5, h6, h7, O, E, J, ac, C⟩ := (sa [aQ, Z, W, V] bv ak).g12 h1 h2 h3 h4 h5 h6 h7 O E J ac C
   clear bv
   replace aE := aE.rn aQ
   clear ak
   have fU := aE.len; have fV := aE.max
   refine .d fun hN bw => ?_
   replace ⟨h1, h2, h3, h4, h5, h6, h7, O, E, J, ac, aE⟩ := (se [aW, Z, W, V] bw).g12 h1 h2 h3 h4 h5 h6 h7 O E J ac aE
   replace C := (se [aW, Z, W, V] bw).g1 C
   clear bw
   replace h1 := h1.outof
   replace h2 := h2.outof
   replace h3 := h3.outof
   replace h4 := h4.outof
   replace h5 := h5.outof
   replace h6 := h6.outof
   replace h7 := h7.outof
   have bG : nin (fo F w.heap.size) [aW, Z, W, V] cY ∧ cY ≠ aW := hap_mk (.inr dR) (all_cons (Nb.symm b7) (all_cons dQ (all_cons dP (all_cons dO all_nil)))) (Nb.symm b7)
   refine RG.append1 (T := 48) (ty := 48) (y := (⟨x.num, (⟨x.part.ids, x.part.blocks⟩ : Prt)⟩ : Fil)) aE ac (by kernel_rfl) (by kernel_rfl) ⟨_, _, _, _, _, _, rfl, h4.oi, h5.oi⟩ bG (by have := p2.1; have q1 := numAt_lt d x.num; omega) fun aR cZ hO ai az b8 => ?_
   have fW := nb_or az d4 O.lt
   have fX := nb_or az d5 E.lt
   have fY := nb_or az d6 J.lt
   have d8 := gb_or az d7 C.size
   replace ⟨h1, h2, h3, h6, h7, O, E, J, C⟩ := (sa [aW, Z, W, V] b8 az).g9 h1 h2 h3 h6 h7 O E J C
   clear b8
   replace ai := ai.rn aW
   clear az
   have fZ := ai.len; have f0 := ai.max
   refine .r 1 <| .ss 0 (vS aR (0 + d.files.length + 1) cZ) O fun hP b9 d9 ea => ?_
   replace ⟨h1, h2, h3, h6, h7, E, J, ai, C⟩ := (so [aR, Z, W, V] b9).g9 h1 h2 h3 h6 h7 E J ai C
   clear b9 ea
   refine .d <| .g <| .r 1 <| .lb E <| RG.int (x.num + 1) (by kernel_rfl) (by have q1 := numAt_lt d x.num; have q2 := p2.2.2.2; omega) <| .r 1 <| .ss 3 (vI (x.num + 1)) d9 fun hQ cd eb ec => ?_
   replace ⟨h1, h2, h3, h6, h7, E, J, ai, C⟩ := (so [aR, Z, W, V] cd).g9 h1 h2 h3 h6 h7 E J ai C
   clear cd ec
   refine .d <| .ib 0 <| .s <| .g <| .ln eb <| .sc [vS aR (0 + d.files.length + 1) cZ, .slice a2 d.list.length c2, .slice a3 d.names.length c3, vI (x.num + 1)] J fun fp ce ed ee => ?_
   replace ⟨h1, h2, h3, h6, h7, E, ai, C⟩ := (so [aR, Z, W, V] ce).g8 h1 h2 h3 h6 h7 E ai C
   clear ce ee
   refine .d ?_
   have fq := ai.sl (.inr d8)
   replace ⟨h1, h2, h3, h6, h7⟩ := (sd fp [aR, Z, W, V] aR).g5 h1 h2 h3 h6 h7
   exact .rb Tryz.func128 Tryz.results128 ed ⟨(VS.of (y := (⟨(([] ++ d.files) ++ [(⟨x.num, (⟨x.part.ids, x.part.blocks⟩ : Prt)⟩ : Fil)]), d.list, d.names, x.num + 1⟩ : Dsk)) ⟨_, rfl, ⟨_, _, _, _, _, _, _, _, _, rfl, fq.w1, h2.w1, h3.w1⟩⟩ (by first | (rw [doD_1 (by assumption)]; simp; done) | (rw [doD_2 (by assumption)]; simp; done) | (rw [doD_3 (by assumption), gone_t (by assumption) (by assumption)]; have e1 : (numAt d x.num + 1).toNat = (numAt d x.num).toNat + 1 := (by omega); simp [e1]; done) | (rw [doD_3 (by assumption), gone_f (.inl (by assumption))]) | (rw [doD_3 (by assumption), gone_f (.inr (by assumption))]) | rw [doD_0 (by assumption) (by assumption) (by assumption)])), C⟩
 refine .r 1 <| .d <| .cf <| .s <| .g <| .eq x.kind 2 (fun ef => ?_) (fun ef => ?_)
 · refine .r 1 <| .d <| .ct <| .s <| .g <| .ns 0 3 [] fun bD ft aF cg eg eh => ?_
   have ei := nb_new aF O.lt
   have ej := nb_new aF E.lt
   have ek := nb_new aF J.lt
   have em := gb_new aF C.size
   have f3 := C.cn aF
   replace ⟨h1, h2, h3, h6, h7, O, E, J, C⟩ := (sn [Z, W, V] cg aF).g9 h1 h2 h3 h6 h7 O E J C
   clear cg eh aF
   have en : Own (α := Int) ft bD 3 (nin (fo F w.heap.size) [bD, Z, W, V]) 0 0 [] := Own.nil' eg
   refine .r 1 <| .lb E <| RG.appendF (T := 49) (ty := 49) flat_int en h6 (by kernel_rfl) (by kernel_rfl) (fun b h e => h.2 (e ▸ (.head _))) (by have := p2.1; have q1 := numAt_lt d x.num; omega) fun aI c8 hV ab aA ci => ?_
   have f4 := nb_or aA ei O.lt
   have f5 := nb_or aA ej E.lt
   have f6 := nb_or aA ek J.lt
   have eo := gb_or aA em C.size
   replace ⟨h1, h2, h3, h7, O, E, J, C⟩ := (sa [bD, Z, W, V] ci aA).g8 h1 h2 h3 h7 O E J C
   clear ci
   replace ab := ab.rn bD
   clear aA
   have f7 := ab.len; have f8 := ab.max
   refine .r 1 <| .ss 1 (vS aI (0 + x.list.length) c8) O fun c9 cj aS ep => ?_
   replace ⟨h1, h2, h3, h7, E, J, ab, C⟩ := (so [aI, Z, W, V] cj).g8 h1 h2 h3 h7 E J ab C
   clear cj ep
   refine .d <| .g <| .r 1 <| .lb E <| .cl (c_spec_l11Names x.names h7.ta (by have := p2.2.1; omega) (by intro n hn; have := p2.2.2.1 n hn; omega) (w := c9) (F := all)) ?_
   rintro hW hX ⟨⟨aT, da, db, rfl, ae, aG⟩, ck⟩
   have cm := al4 ab.lt J.lt E.lt aS.lt
   have es : Gb w.heap.size c9.heap.size := C.size
   have f9 := nb_ge aG aS.lt
   have ga := nb_ge aG E.lt
   have gb := nb_ge aG J.lt
   have gf := nb_ge aG ab.lt
   have et := gb_ge aG C.size
   replace ⟨h1, h2, h3, aS, E, J, ab, C⟩ := (sz [aI, Z, W, V] ck aG).g8 h1 h2 h3 aS E J ab C
   clear ck aG
   replace ae := Own.take (s0 := w.heap.size) (M := [aI, Z, W, V]) ae cm es
   replace ae := ae.base (G' := fo F w.heap.size) (fun _ _ h => .inr h)
   have gg := ae.len; have gh := ae.max
   clear cm
   refine .r 1 <| .ss 2 (vS aT da db) aS fun hY co ew ex => ?_
   replace ⟨h1, h2, h3, E, J, ab, ae, C⟩ := (so [aT, aI, Z, W, V] co).g8 h1 h2 h3 E J ab ae C
   clear co ex
   refine .d <| .ib 0 <| .s <| .g <| .ln ew <| .sc [.slice a1 d.files.length c1, vS aI (0 + x.list.length) c8, vS aT da db, vI d.next] J fun dd cp ey ez => ?_
   replace ⟨h1, h2, h3, E, ab, ae, C⟩ := (so [aT, aI, Z, W, V] cp).g7 h1 h2 h3 E ab ae C
   clear cp ez
   refine .d ?_
   have cq := ab.sl (.inr eo)
   replace ⟨h1, h2, h3, ae⟩ := (sd dd [aT, aI, Z, W, V] aI).g4 h1 h2 h3 ae
   have fu := ae.sl (.inr et)
   replace ⟨h1, h2, h3, cq⟩ := (sd dd [aT, Z, W, V] aT).g4 h1 h2 h3 cq
   exact .rb Tryz.func128 Tryz.results128 ey ⟨(VS.of (y := (⟨d.files, ([] ++ x.list), x.names, d.next⟩ : Dsk)) ⟨_, rfl, ⟨_, _, _, _, _, _, _, _, _, rfl, h1.w1, cq.w1, fu.w1⟩⟩ (by first | (rw [doD_1 (by assumption)]; simp; done) | (rw [doD_2 (by assumption)]; simp; done) | (rw [doD_3 (by assumption), gone_t (by assumption) (by assumption)]; have e1 : (numAt d x.num + 1).toNat = (numAt d x.num).toNat + 1 := (by omega); simp [e1]; done) | (rw [doD_3 (by assumption), gone_f (.inl (by assumption))]) | (rw [doD_3 (by assumption), gone_f (.inr (by assumption))]) | rw [doD_0 (by assumption) (by assumption) (by assumption)])), C⟩
 refine .r 1 <| .d <| .cf <| .s <| .g <| .eq x.kind 3 (fun eA => ?_) (fun eA => ?_)
 · refine .r 1 <| .d <| .ct <| .s <| .g <| .ln O <| .r 1 <| .lb E <| .cl (c_spec_l21At d x.num h1.ta h2.ta h3.ta (w := bb) (F := all)) ?_
   rintro hZ fv ⟨rfl, cr⟩
   replace ⟨h1, h2, h3, O, E, J, C⟩ := (se [Z, W, V] cr).g7 h1 h2 h3 O E J C
   clear cr
   refine .r 1 <| .d <| .s <| .g <| .r 1 <| .bp (numAt d x.num ≥ 0) (fun eB => ?_) (fun eB => ?_)
   · refine .r 1 <| .ln O <| .r 1 <| .lb E <| .cl (c_spec_l21Counts d x.num h1.ta h2.ta h3.ta (w := fv) (F := all)) ?_
     rintro ia aX ⟨rfl, cu⟩
     replace ⟨h1, h2, h3, O, E, J, C⟩ := (se [Z, W, V] cu).g7 h1 h2 h3 O E J C
     clear cu
     cases gi : (d.list.contains x.num)
     · refine .r 2 <| .d <| .ct ?_
       replace h1 := h1.into
       replace h2 := h2.into
       replace h3 := h3.into
       have cv : Gb (V + 1) aX.heap.size := O.lt
       refine .gd (mtb [] aX.heap.size) 11 fun fw bz => ?_
       replace ⟨h1, h2, h3, O, E, J, C⟩ := (se [Z, W, V] bz).g7 h1 h2 h3 O E J C
       have bA : Chg (mtb [] aX.heap.size) aX fw := Chg.stepN (Chg.refl (mtb [] aX.heap.size) aX) bz
       clear bz
       refine .r [1] <| .lb 2 O (nS_of all_nil cv) <| .r [3] <| GA.sub (i := 4) (t := 48) (lo := none) (hi := some (vI (numAt d x.num))) (by kernel_rfl) h1 0 ((numAt d x.num).toNat) (by kernel_rfl) (by kernel_rfl) (.inl ⟨rfl, rfl⟩) (.inr ⟨_, _, rfl, by omega⟩) (by have q1 := numAt_lt d x.num; omega) (by have q1 := numAt_lt d x.num; omega) fun fx fy aJ => ?_
       have gj := aJ.len; have gk := aJ.max
       refine .r [6] <| .lb 7 O (nS_of all_nil cv) <| .r [8] <| GA.int (i := 9) (numAt d x.num + 1) (by kernel_rfl) (by have q1 := numAt_lt d x.num; have q2 := p2.2.2.2; omega) <| GA.sub (i := 10) (t := 48) (lo := some (vI (numAt d x.num + 1))) (hi := none) (by kernel_rfl) h1 ((numAt d x.num + 1).toNat) d.files.length (by kernel_rfl) (by kernel_rfl) (.inr ⟨_, _, rfl, by omega⟩) (.inl ⟨rfl, rfl⟩) (by have q1 := numAt_lt d x.num; omega) (by have q1 := numAt_lt d x.num; omega) fun ic ie aj => ?_
       have gl := aj.len; have gm := aj.max
       refine .go 0 <| .ns 0 165 [] fun ig cw => ?_
       replace ⟨h1, h2, h3, O, E, J, aJ, aj, C, bA⟩ := (se [Z, W, V] cw).g10 h1 h2 h3 O E J aJ aj C bA
       clear cw
       intro aY fz aw cx eC eD
       have eE := nb_new aw O.lt
       have eF := nb_new aw E.lt
       have eG := nb_new aw J.lt
       have eH := gb_new aw C.size
       have eI := C.cn aw
       have eJ := bA.cn aw
       replace ⟨h1, h2, h3, O, E, J, aJ, aj, C⟩ := (sn [Z, W, V] cx aw).g9 h1 h2 h3 O E J aJ aj C
       clear cx eD aw
       have bB : Own (α := Fil) fz aY 165 (nin (fo F w.heap.size) [aY, Z, W, V]) 0 0 [] := Own.nil' eC
       refine .go 5 <| GE.append (T := 48) (ty := 48) (args := [vS aY 0 0, .slice fx ((numAt d x.num).toNat - 0) fy]) (by kernel_rfl) fun ii cy => ?_
       replace ⟨h1, h2, h3, O, E, J, aJ, aj, bB, C⟩ := (se [aY, Z, W, V] cy).g10 h1 h2 h3 O E J aJ aj bB C
       clear cy
       obtain ⟨cz, ij, ik, cA, aH, am, bC, eK⟩ := bB.append (P := Tryz.prog) (T := 48) (ty := 48) (by kernel_rfl) (aJ.base (fun _ _ h => h.1)) (fun b _ h => own_in (.head _) h) (by have := p2.1; have q1 := numAt_lt d x.num; omega)
       refine ⟨_, _, cA, Chg.toS bC (Cov.toS eJ), ?_⟩
       clear eK
       have eL := nb_or am eE O.lt
       have eM := nb_or am eF E.lt
       have eN := nb_or am eG J.lt
       have eO := gb_or am eH C.size
       have gn := cov_or am eI C.size
       replace ⟨h1, h2, h3, O, E, J, aj, C⟩ := (sa [aY, Z, W, V] bC am).g8 h1 h2 h3 O E J aj C
       clear bC
       replace aH := aH.rn aY
       clear am
       have gp := aH.len; have gq := aH.max
       refine .d fun il cB => ?_
       replace ⟨h1, h2, h3, O, E, J, aj, aH, C⟩ := (se [cz, Z, W, V] cB).g9 h1 h2 h3 O E J aj aH C
       clear cB
       replace h1 := h1.outof
       replace h2 := h2.outof
       replace h3 := h3.outof
       replace aj := aj.outof
       refine RG.appendN (T := 48) (ty := 48) aH aj (by kernel_rfl) (by kernel_rfl) (fun b _ h => own_in (.head _) h) (by have := p2.1; have q1 := numAt_lt d x.num; omega) fun aZ de im ao aB cC => ?_
       have gr := nb_or aB eL O.lt
       have gs := nb_or aB eM E.lt
       have gt := nb_or aB eN J.lt
       have eP := gb_or aB eO C.size
       replace ⟨h1, h2, h3, O, J, C⟩ := (sa [cz, Z, W, V] cC aB).g6 h1 h2 h3 O J C
       clear cC
       replace ao := ao.rn cz
       clear aB
       have gu := ao.len; have gv := ao.max
       refine .r 1 <| .ss 0 (vS aZ (0 + ((numAt d x.num).toNat - 0) + (d.files.length - (numAt d x.num + 1).toNat)) de) O fun io cD eQ eR => ?_
       replace ⟨h1, h2, h3, J, ao, C⟩ := (so [aZ, Z, W, V] cD).g6 h1 h2 h3 J ao C
       clear cD eR
       refine .d <| .ib 0 <| .s <| .g <| .ln eQ <| .sc [vS aZ (0 + ((numAt d x.num).toNat - 0) + (d.files.length - (numAt d x.num + 1).toNat)) de, .slice a2 d.list.length c2, .slice a3 d.names.length c3, vI d.next] J fun fA cE eS eT => ?_
       replace ⟨h1, h2, h3, ao, C⟩ := (so [aZ, Z, W, V] cE).g5 h1 h2 h3 ao C
       clear cE eT
       refine .d ?_
       have fB := ao.sl (.inr eP)
       replace ⟨h1, h2, h3⟩ := (sd fA [aZ, Z, W, V] aZ).g3 h1 h2 h3
       exact .rb Tryz.func128 Tryz.results128 eS ⟨(VS.of (y := (⟨(([] ++ ((d.files.take ((numAt d x.num).toNat)).drop 0)) ++ ((d.files.take d.files.length).drop ((numAt d x.num + 1).toNat))), d.list, d.names, d.next⟩ : Dsk)) ⟨_, rfl, ⟨_, _, _, _, _, _, _, _, _, rfl, fB.w1, h2.w1, h3.w1⟩⟩ (by first | (rw [doD_1 (by assumption)]; simp; done) | (rw [doD_2 (by assumption)]; simp; done) | (rw [doD_3 (by assumption), gone_t (by assumption) (by assumption)]; have e1 : (numAt d x.num + 1).toNat = (numAt d x.num).toNat + 1 := (by omega); simp [e1]; done) | (rw [doD_3 (by assumption), gone_f (.inl (by assumption))]) | (rw [doD_3 (by assumption), gone_f (.inr (by assumption))]) | rw [doD_0 (by assumption) (by assumption) (by assumption)])), C⟩
     refine .r 2 <| .d <| .cf <| .sk <| .ib 0 <| .s <| .g <| .ln O <| .sc [.slice a1 d.files.length c1, .slice a2 d.list.length c2, .slice a3 d.names.length c3, vI d.next] J fun ip cF eU eV => ?_
     replace ⟨h1, h2, h3, O, C⟩ := (so [Z, W, V] cF).g5 h1 h2 h3 O C
     clear cF eV
     exact .d <| .rb Tryz.func128 Tryz.results128 eU ⟨(VS.of (y := d) ⟨_, rfl, ⟨_, _, _, _, _, _, _, _, _, rfl, h1.w1, h2.w1, h3.w1⟩⟩ (by first | (rw [doD_1 (by assumption)]; simp; done) | (rw [doD_2 (by assumption)]; simp; done) | (rw [doD_3 (by assumption), gone_t (by assumption) (by assumption)]; have e1 : (numAt d x.num + 1).toNat = (numAt d x.num).toNat + 1 := (by omega); simp [e1]; done) | (rw [doD_3 (by assumption), gone_f (.inl (by assumption))]) | (rw [doD_3 (by assumption), gone_f (.inr (by assumption))]) | rw [doD_0 (by assumption) (by assumption) (by assumption)])), C⟩
   refine .r 7 <| .d <| .cf <| .sk <| .ib 0 <| .s <| .g <| .ln O <| .sc [.slice a1 d.files.length c1, .slice a2 d.list.length c2, .slice a3 d.names.length c3, vI d.next] J fun iq cG eW eX => ?_
   replace ⟨h1, h2, h3, O, C⟩ := (so [Z, W, V] cG).g5 h1 h2 h3 O C
   clear cG eX
   exact .d <| .rb Tryz.func128 Tryz.results128 eW ⟨(VS.of (y := d) ⟨_, rfl, ⟨_, _, _, _, _, _, _, _, _, rfl, h1.w1, h2.w1, h3.w1⟩⟩ (by first | (rw [doD_1 (by assumption)]; simp; done) | (rw [doD_2 (by assumption)]; simp; done) | (rw [doD_3 (by assumption), gone_t (by assumption) (by assumption)]; have e1 : (numAt d x.num + 1).toNat = (numAt d x.num).toNat + 1 := (by omega); simp [e1]; done) | (rw [doD_3 (by assumption), gone_f (.inl (by assumption))]) | (rw [doD_3 (by assumption), gone_f (.inr (by assumption))]) | rw [doD_0 (by assumption) (by assumption) (by assumption)])), C⟩
 refine .r 1 <| .d <| .cf <| .sk <| .ib 0 <| .s <| .g <| .ln O <| .sc [.slice a1 d.files.length c1, .slice a2 d.list.length c2, .slice a3 d.names.length c3, vI d.next] J fun ir cH eY eZ => ?_
 replace ⟨h1, h2, h3, C⟩ := (so [Z, W, V] cH).g4 h1 h2 h3 C
 clear cH eZ
 exact .d <| .rb Tryz.func128 Tryz.results128 eY ⟨(VS.of (y := d) ⟨_, rfl, ⟨_, _, _, _, _, _, _, _, _, rfl, h1.w1, h2.w1, h3.w1⟩⟩ (by first | (rw [doD_1 (by assumption)]; simp; done) | (rw [doD_2 (by assumption)]; simp; done) | (rw [doD_3 (by assumption), gone_t (by assumption) (by assumption)]; have e1 : (numAt d x.num + 1).toNat = (numAt d x.num).toNat + 1 := (by omega); simp [e1]; done) | (rw [doD_3 (by assumption), gone_f (.inl (by assumption))]) | (rw [doD_3 (by assumption), gone_f (.inr (by assumption))]) | rw [doD_0 (by assumption) (by assumption) (by assumption)])), C⟩
theorem c_spec_l21To (d : Dsk) (steps : List Stp) (cut : Int) {w : World} {F : Nat → Prop} {a1 : Option Addr} {n1 c1 : Nat} (h1 : RepS w F a1 n1 c1 d.files) {a2 : Option Addr} {n2 c2 : Nat} (h2 : RepS w F a2 n2 c2 d.list) {a3 : Option Addr} {n3 c3 : Nat} (h3 : RepS w F a3 n3 c3 d.names) {a4 : Option Addr} {n4 c4 : Nat} (h4 : RepS w F a4 n4 c4 steps) (p0 : d.files.length ≤ 1000) (p1 : steps.length ≤ 1000) (p2 : d.list.length ≤ 1000) (p3 : ∀ x ∈ steps, StpSz x) : Calls Tryz.prog 116 [.agg #[.slice a1 n1 c1, .slice a2 n2 c2, .slice a3 n3 c3, .int .i64 d.next], .slice a4 n4 c4, .int .i64 cut].toArray w (rets fun rv w' => VS (fo F w.heap.size) w' (toD d steps cut : Dsk) rv ∧ Ext w w') := by
 refine goT Tryz.func116 ?_
 obtain ⟨rfl, bw, h1⟩ := h1.tp
 obtain ⟨rfl, bz, h2⟩ := h2.tp
 obtain ⟨rfl, bA, h3⟩ := h3.tp
 obtain ⟨rfl, bB, h4⟩ := h4.tp
 refine .s <| .g <| .np 51 [.slice a1 d.files.length c1, .slice a2 d.list.length c2, .slice a3 d.names.length c3, vI d.next] fun W b6 au av aq ba => ?_
 have bC : Cov nil w W := cov_new au (Nat.le_refl _)
 replace ⟨h1, h2, h3, h4⟩ := (sn [] av au).g4 h1 h2 h3 h4
 have C := av
 clear av ba au
 refine .np 51 [.slice none 0 0, .slice none 0 0, .slice none 0 0, vI 0] fun ag aQ ar aF ac bb => ?_
 have bD := nb_new ar aq.lt
 have bE := C.cn ar
 replace ⟨h1, h2, h3, h4, aq, C⟩ := (sn [W] aF ar).g6 h1 h2 h3 h4 aq C
 clear aF bb ar
 refine .d <| .s <| .s <| .g <| .r 1 <| .d <| .b 0 <| T.loop (X := Nat × (List Fil) × (Option Addr) × Nat × Nat × (List Int) × (Option Addr) × Nat × Nat × (List (List Tag)) × (Option Addr) × Nat × Nat × Int) (0, (d.files : List Fil), a1, d.files.length, c1, (d.list : List Int), a2, d.list.length, c2, (d.names : List (List Tag)), a3, d.names.length, c3, d.next) (fun (i, Z, a_d_0, n_d_0, c_d_0, aa, a_d_1, n_d_1, c_d_1, ab, a_d_2, n_d_2, c_d_2, V) => [(1, .slice a4 steps.length c4), (2, vI cut), (3, .pointer (some ⟨W, 0, none⟩)), (6, .pointer (some ⟨ag, 0, none⟩)), (7, vI (i : Int))]) (fun (i, Z, a_d_0, n_d_0, c_d_0, aa, a_d_1, n_d_1, c_d_1, ab, a_d_2, n_d_2, c_d_2, V) am => Chg (ins [W]) aQ am ∧ RepS am (nin (fo F w.heap.size) [ag, W]) a_d_0 n_d_0 c_d_0 Z ∧ RepS am (nin (fo F w.heap.size) [ag, W]) a_d_1 n_d_1 c_d_1 aa ∧ RepS am (nin (fo F w.heap.size) [ag, W]) a_d_2 n_d_2 c_d_2 ab ∧ Box am W 51 [.slice a_d_0 n_d_0 c_d_0, .slice a_d_1 n_d_1 c_d_1, .slice a_d_2 n_d_2 c_d_2, vI V] ∧ (i ≤ steps.length) ∧ (Z.length ≤ d.files.length + i) ∧ (aa.length ≤ 1000) ∧ (((steps.take cut.toNat).drop i).foldl doD ⟨Z, aa, ab, V⟩ = toD d steps cut)) (fun (i, Z, a_d_0, n_d_0, c_d_0, aa, a_d_1, n_d_1, c_d_1, ab, a_d_2, n_d_2, c_d_2, V) => steps.length - i) (by kernel_rfl) ⟨by kernel_rfl, by kernel_rfl, by kernel_rfl, by kernel_rfl, by kernel_rfl, trivial⟩ ⟨Chg.refl _ _, h1, h2, h3, aq, (by first | omega | rfl), (by first | omega | rfl), (by first | omega | rfl), (by first | omega | rfl)⟩ ?_
 rintro ⟨i, Z, a_d_0, n_d_0, c_d_0, aa, a_d_1, n_d_1, c_d_1, ab, a_d_2, n_d_2, c_d_2, V⟩ b7 am ⟨af, E, J, O, ae, bF, bG, bH, bI⟩ aw
 have bJ : Cov (ins [W]) aQ W := ⟨.inl (.head _)⟩
 have aG : Mv [ag, W] [ag, W] aQ am := Mv.inl af (all_cons (.tail _ (.head _)) all_nil) (all_cons (.inl (.head _)) (all_cons (.inl (.tail _ (.head _))) all_nil))
 replace ⟨h4, ac, C⟩ := (sp aG af).g3 h4 ac C
 clear aG
 have bK := E.len; have bL := E.max
 have bM := J.len; have bN := J.max
 have bO := O.len; have bP := O.max
 refine .s <| .s <| .g <| .r 3 <| .bp ((i : Int) < (steps.length : Int)) (fun bc => ?_) (fun bc => ?_)
 · refine .r 3 <| .bp ((i : Int) < cut) (fun bd => ?_) (fun bd => ?_)
   · refine .r 1 <| .d <| .ct <| .sk <| .s <| .b 1 <| .gd nil 5 fun b8 aH => ?_
     replace ⟨h4, ae, ac, E, J, O, C, af⟩ := (se [ag, W] aH).g8 h4 ae ac E J O C af
     clear aH
     refine .ln 0 ae id <| .r [1, 2] ?_
     have bg : i < steps.length := (by omega)
     refine .ix 3 i 6 h4 bg ?_
     obtain ⟨ah, ax⟩ : ∃ y, steps[i]? = some y := ⟨_, List.getElem?_eq_getElem (by omega)⟩
     have bQ := drop_at ax; have bo := List.mem_of_getElem? ax
     obtain ⟨_, ⟨b9, cd, ce, cg, ci, cj, ck, cm, co, cp, cq, cr, rfl, ay, az, aA, aB⟩, bh⟩ := h4.elem i ah ax
     have bi := ay.len
     subst bi
     have bR := ay.max
     have bj := az.len
     subst bj
     have bS := az.max
     have bk := aA.len
     subst bk
     have bT := aA.max
     have bm := aB.len
     subst bm
     have bU := aB.max
     refine .lg 4 0 bh id <| .d fun bn aI => ?_
     replace ⟨ae, ac, E, J, O, ay, az, aA, aB, C, af⟩ := (se [ag, W] aI).g11 ae ac E J O ay az aA aB C af
     clear aI
     refine .cl (c_spec_l21Do (⟨Z, aa, ab, V⟩ : Dsk) ah E J O ay az aA aB (by simp only; omega) (by simp only; omega) (p3 _ (by assumption)) (w := bn) (F := nin (fo F w.heap.size) [ag, W])) ?_
     rintro cu cv ⟨⟨_, rfl, ⟨aJ, bV, aK, aL, bW, aM, aN, bX, aO, rfl, ai, aj, ak⟩⟩, aP⟩
     have al := al2 ac.lt ae.lt
     have ao : Gb w.heap.size bn.heap.size := C.size
     replace ⟨ae, ac, E, J, O, C, af⟩ := (se [ag, W] aP).g7 ae ac E J O C af
     clear aP
     replace ai := RepS.mixed' (M := [ag, W]) ai al ao
     have bq := ai.max
     replace aj := RepS.mixed' (M := [ag, W]) aj al ao
     have br := aj.max
     replace ak := RepS.mixed' (M := [ag, W]) ak al ao
     have bt := ak.max
     clear al
     have aR := ai.len
     subst aR
     have aS := aj.len
     subst aS
     have aT := ak.len
     subst aT
     refine .sc [.slice aJ (((doD (⟨Z, aa, ab, V⟩ : Dsk) ah).files).length) aK, .slice aL (((doD (⟨Z, aa, ab, V⟩ : Dsk) ah).list).length) aM, .slice aN (((doD (⟨Z, aa, ab, V⟩ : Dsk) ah).names).length) aO, vI ((doD (⟨Z, aa, ab, V⟩ : Dsk) ah).next)] ae fun bY aC aU aV => ?_
     replace ⟨ac, E, J, O, ai, aj, ak, C, af⟩ := (so [ag, W] aC).g9 ac E J O ai aj ak C af
     clear aC aV
     exact .d <| .ib 1 <| .g <| .r 1 <| .it ((i : Int) + 1) <| .r 1 <| .d <| aw (i + 1, (doD (⟨Z, aa, ab, V⟩ : Dsk) ah).files, aJ, ((doD (⟨Z, aa, ab, V⟩ : Dsk) ah).files).length, aK, (doD (⟨Z, aa, ab, V⟩ : Dsk) ah).list, aL, ((doD (⟨Z, aa, ab, V⟩ : Dsk) ah).list).length, aM, (doD (⟨Z, aa, ab, V⟩ : Dsk) ah).names, aN, ((doD (⟨Z, aa, ab, V⟩ : Dsk) ah).names).length, aO, (doD (⟨Z, aa, ab, V⟩ : Dsk) ah).next) _ _ ⟨by kernel_rfl, by kernel_rfl, by kernel_rfl, by kernel_rfl, by kernel_rfl, trivial⟩ ⟨af, ai, aj, ak, aU, (by omega), (by have q1 := p3 _ (by assumption); have q2 := doD_len (d := ⟨Z, aa, ab, V⟩) q1.1 (by assumption); dsimp only at q2; omega), (by have q1 := p3 _ (by assumption); have q2 := doD_len (d := ⟨Z, aa, ab, V⟩) q1.1 (by assumption); dsimp only at q2; omega), (by exact toStep (by assumption) (by assumption) (by omega))⟩ (by first | omega | (simp only []; omega))
   refine .r 1 <| .d <| .cf <| .x 0 rfl <| .s <| .g <| .ln ae <| .sc [.slice a_d_0 n_d_0 c_d_0, .slice a_d_1 n_d_1 c_d_1, .slice a_d_2 n_d_2 c_d_2, vI V] ac fun bZ aD aW aX => ?_
   replace ⟨ae, E, J, O, C⟩ := (so [ag, W] aD).g5 ae E J O C
   clear aD aX
   exact .d <| .rb Tryz.func116 Tryz.results116 aW ⟨(VS.of (y := (⟨Z, aa, ab, V⟩ : Dsk)) ⟨_, rfl, ⟨_, _, _, _, _, _, _, _, _, rfl, E.w1, J.w1, O.w1⟩⟩ (by exact toEnd (by assumption) (by omega))), C⟩
 refine .r 5 <| .d <| .cf <| .x 0 rfl <| .s <| .g <| .ln ae <| .sc [.slice a_d_0 n_d_0 c_d_0, .slice a_d_1 n_d_1 c_d_1, .slice a_d_2 n_d_2 c_d_2, vI V] ac fun b0 aE aY aZ => ?_
 replace ⟨E, J, O, C⟩ := (so [ag, W] aE).g4 E J O C
 clear aE aZ
 exact .d <| .rb Tryz.func116 Tryz.results116 aY ⟨(VS.of (y := (⟨Z, aa, ab, V⟩ : Dsk)) ⟨_, rfl, ⟨_, _, _, _, _, _, _, _, _, rfl, E.w1, J.w1, O.w1⟩⟩ (by exact toEnd (by assumption) (by omega))), C⟩
theorem c_spec_l21Merge (d : Dsk) (at_ : Int) {w : World} {F : Nat → Prop} {a1 : Option Addr} {n1 c1 : Nat} (h1 : RepS w F a1 n1 c1 d.files) {a2 : Option Addr} {n2 c2 : Nat} (h2 : RepS w F a2 n2 c2 d.list) {a3 : Option Addr} {n3 c3 : Nat} (h3 : RepS w F a3 n3 c3 d.names) (p0 : d.names.length ≤ 1000) (p1 : ∀ n ∈ d.names, n.length ≤ 1000) (p2 : d.list.length ≤ 1000) (p3 : ∀ n ∈ d.list, 0 ≤ numAt d n) (p4 : ∀ f ∈ d.files, PrtSz f.part) : Calls Tryz.prog 95 [.agg #[.slice a1 n1 c1, .slice a2 n2 c2, .slice a3 n3 c3, .int .i64 d.next], .int .i64 at_].toArray w (rets fun rv w' => VL (ge w.heap.size) w' (mergeSt d at_ : List Stp) rv ∧ Ext w w') := by
 refine goT Tryz.func95 ?_
 obtain ⟨rfl, oM, h1⟩ := h1.tp
 obtain ⟨rfl, oN, h2⟩ := h2.tp
 obtain ⟨rfl, oO, h3⟩ := h3.tp
 refine .s <| .g <| .np 51 [.slice a1 d.files.length c1, .slice a2 d.list.length c2, .slice a3 d.names.length c3, vI d.next] fun ae l7 gM eE C kI => ?_
 replace ⟨h1, h2, h3⟩ := (sn [] eE gM).g3 h1 h2 h3
 have E := eE
 clear eE kI gM
 refine .r 1 <| .d <| .s <| .s <| .g <| .r 2 <| .lb C <| .r 1 <| .it ((d.list.length : Int) - 2) <| .cl (c_spec_l6In at_ 0 ((d.list.length : Int) - 2) (w := l7) (F := all)) ?_
 rintro qN qO ⟨rfl, gN⟩
 replace ⟨h1, h2, h3, C, E⟩ := (se [ae] gN).g5 h1 h2 h3 C E
 clear gN
 cases gO : (inR at_ 0 ((d.list.length : Int) - 2))
 · have oP := inR_f gO
   refine .r 12 <| .d <| .ct <| .s <| .g <| .ns 0 162 [] fun eF kJ d9 gP kK kL => ?_
   have oQ := nb_new d9 C.lt
   have kM := gb_new d9 E.size
   replace ⟨h1, h2, h3, C, E⟩ := (sn [ae] gP d9).g5 h1 h2 h3 C E
   clear gP kL d9
   have kN : Own (α := Stp) kJ eF 162 (nin (ge w.heap.size) [eF, ae]) 0 0 [] := Own.nil' kK
   refine .r 1 <| .d ?_
   have l8 := kN.sl kM
   replace ⟨h1, h2, h3⟩ := (sd kJ [eF, ae] eF).g3 h1 h2 h3
   exact .rt Tryz.func95 Tryz.results95 (vS eF 0 0) ⟨(l8.vl (by first | rw [merge_no (.inl (by assumption))] | rw [merge_no (.inr (.inl (by assumption)))] | rw [merge_no (.inr (.inr (by assumption)))] | rw [merge_yes (by assumption) (by assumption) (by assumption) (by assumption) (by assumption) (by assumption) (by assumption)]) (fun _ _ h => h.1)), E⟩
 have oR := inR_t gO
 refine .r 3 <| .lb C <| .bp (d.next ≥ 999) (fun kO => ?_) (fun kO => ?_)
 · refine .r 7 <| .d <| .ct <| .s <| .g <| .ns 0 162 [] fun eG kP ea gQ kQ kR => ?_
   have oS := nb_new ea C.lt
   have kS := gb_new ea E.size
   replace ⟨h1, h2, h3, C, E⟩ := (sn [ae] gQ ea).g5 h1 h2 h3 C E
   clear gQ kR ea
   have kT : Own (α := Stp) kP eG 162 (nin (ge w.heap.size) [eG, ae]) 0 0 [] := Own.nil' kQ
   refine .r 1 <| .d ?_
   have l9 := kT.sl kS
   replace ⟨h1, h2, h3⟩ := (sd kP [eG, ae] eG).g3 h1 h2 h3
   exact .rt Tryz.func95 Tryz.results95 (vS eG 0 0) ⟨(l9.vl (by first | rw [merge_no (.inl (by assumption))] | rw [merge_no (.inr (.inl (by assumption)))] | rw [merge_no (.inr (.inr (by assumption)))] | rw [merge_yes (by assumption) (by assumption) (by assumption) (by assumption) (by assumption) (by assumption) (by assumption)]) (fun _ _ h => h.1)), E⟩
 refine .r 3 <| .lb C <| .r 1 <| .bp ((d.files.length : Int) ≥ 20) (fun kU => ?_) (fun kU => ?_)
 · refine .r 1 <| .d <| .ct <| .s <| .g <| .ns 0 162 [] fun eH kV eb gR kW kX => ?_
   have oT := nb_new eb C.lt
   have kY := gb_new eb E.size
   replace ⟨h1, h2, h3, C, E⟩ := (sn [ae] gR eb).g5 h1 h2 h3 C E
   clear gR kX eb
   have kZ : Own (α := Stp) kV eH 162 (nin (ge w.heap.size) [eH, ae]) 0 0 [] := Own.nil' kW
   refine .r 1 <| .d ?_
   have ma := kZ.sl kY
   replace ⟨h1, h2, h3⟩ := (sd kV [eH, ae] eH).g3 h1 h2 h3
   exact .rt Tryz.func95 Tryz.results95 (vS eH 0 0) ⟨(ma.vl (by first | rw [merge_no (.inl (by assumption))] | rw [merge_no (.inr (.inl (by assumption)))] | rw [merge_no (.inr (.inr (by assumption)))] | rw [merge_yes (by assumption) (by assumption) (by assumption) (by assumption) (by assumption) (by assumption) (by assumption)]) (fun _ _ h => h.1)), E⟩
 refine .r 1 <| .d <| .cf <| .sk <| .s <| .g <| .r 1 <| .lb C <| .r 1 ?_
 have gS : (at_).toNat < d.list.length := (by first | omega | exact numAt_idx p3 (by assumption) | exact numAt_nat p3 (by assumption))
 refine RG.idx ((at_).toNat) (len := d.list.length) (i := at_) (sz := 1) (by kernel_rfl) (by first | omega | exact numAt_idx p3 (by assumption) | exact numAt_nat p3 (by assumption)) gS (h2.addr (Nat.zero_lt_of_lt gS)) ?_
 obtain ⟨aV, eI⟩ : ∃ y, d.list[(at_).toNat]? = some y := ⟨_, List.getElem?_eq_getElem (by first | omega | exact numAt_idx p3 (by assumption) | exact numAt_nat p3 (by assumption))⟩
 have oU := drop_at eI; have lT := List.mem_of_getElem? eI
 obtain ⟨_, rfl, k0⟩ := h2.elem ((at_).toNat) aV eI
 refine .lh 0 k0 <| .r 1 <| .d <| .s <| .g <| .r 1 <| .lb C <| .r 1 <| .it (at_ + 1) ?_
 have gT : (at_ + 1).toNat < d.list.length := (by first | omega | exact numAt_idx p3 (by assumption) | exact numAt_nat p3 (by assumption))
 refine RG.idx ((at_ + 1).toNat) (len := d.list.length) (i := at_ + 1) (sz := 1) (by kernel_rfl) (by first | omega | exact numAt_idx p3 (by assumption) | exact numAt_nat p3 (by assumption)) gT (h2.addr (Nat.zero_lt_of_lt gT)) ?_
 obtain ⟨aW, eJ⟩ : ∃ y, d.list[(at_ + 1).toNat]? = some y := ⟨_, List.getElem?_eq_getElem (by first | omega | exact numAt_idx p3 (by assumption) | exact numAt_nat p3 (by assumption))⟩
 have oV := drop_at eJ; have lU := List.mem_of_getElem? eJ
 obtain ⟨_, rfl, k3⟩ := h2.elem ((at_ + 1).toNat) aW eJ
 refine .lh 0 k3 <| .r 1 <| .d <| .s <| .gd nil 18 fun qP gU => ?_
 replace ⟨h1, h2, h3, C, E⟩ := (se [ae] gU).g5 h1 h2 h3 C E
 clear gU
 refine .r [0] <| .lb 1 C id <| .ln 2 C id <| .r [3] <| GA.call1 (i := 4) (by kernel_rfl) (fun mb eK => c_spec_l21At d aV (h1.ta.ext eK) (h2.ta.ext eK) (h3.ta.ext eK) (w := mb) (F := all)) ?_
 have gV : (numAt d aV).toNat < d.files.length := (by first | omega | exact numAt_idx p3 (by assumption) | exact numAt_nat p3 (by assumption))
 refine GA.idx (i := 5) ((numAt d aV).toNat) (len := d.files.length) (z := numAt d aV) (sz := 3) (by kernel_rfl) (by first | omega | exact numAt_idx p3 (by assumption) | exact numAt_nat p3 (by assumption)) gV (h1.addr (Nat.zero_lt_of_lt gV)) <| .r [6] ?_
 obtain ⟨aB, eL⟩ : ∃ y, d.files[(numAt d aV).toNat]? = some y := ⟨_, List.getElem?_eq_getElem (by first | omega | exact numAt_idx p3 (by assumption) | exact numAt_nat p3 (by assumption))⟩
 have oW := drop_at eL; have lV := List.mem_of_getElem? eL
 obtain ⟨_, ⟨qQ, qR, oX, oY, oZ, o0, rfl, V, W⟩, k4⟩ := h1.elem ((numAt d aV).toNat) aB eL
 have gW := V.len
 subst gW
 have mc := V.max
 have gX := W.len
 subst gX
 have me := W.max
 refine .lg 7 1 k4 id <| .r [8] <| .lb 9 C id <| .ln 10 C id <| .r [11] <| GA.call1 (i := 12) (by kernel_rfl) (fun k5 cY => c_spec_l21At d aW (h1.ta.ext cY) (h2.ta.ext cY) (h3.ta.ext cY) (w := k5) (F := all)) ?_
 have eM : (numAt d aW).toNat < d.files.length := (by first | omega | exact numAt_idx p3 (by assumption) | exact numAt_nat p3 (by assumption))
 refine GA.idx (i := 13) ((numAt d aW).toNat) (len := d.files.length) (z := numAt d aW) (sz := 3) (by kernel_rfl) (by first | omega | exact numAt_idx p3 (by assumption) | exact numAt_nat p3 (by assumption)) eM (h1.addr (Nat.zero_lt_of_lt eM)) <| .r [14] ?_
 obtain ⟨ar, cZ⟩ : ∃ y, d.files[(numAt d aW).toNat]? = some y := ⟨_, List.getElem?_eq_getElem (by first | omega | exact numAt_idx p3 (by assumption) | exact numAt_nat p3 (by assumption))⟩
 have mf := drop_at cZ; have k6 := List.mem_of_getElem? cZ
 obtain ⟨_, ⟨o1, o2, o3, o4, o5, o6, rfl, Z, aa⟩, gY⟩ := h1.elem ((numAt d aW).toNat) ar cZ
 have gZ := Z.len
 subst gZ
 have mg := Z.max
 have g0 := aa.len
 subst g0
 have mh := aa.max
 refine .lg 15 1 gY id <| .tw 16 17 ?_ ?_
 · refine .cl (fun eN bX => c_spec_l12Merge aB.part ar.part (V.ta.ext bX) (W.ta.ext bX) (Z.ta.ext bX) (aa.ta.ext bX) (p4 _ (by assumption)) (p4 _ (by assumption)) (w := eN) (F := all)) ?_
   intro eN bX
   replace ⟨h2, h3, C, V, W, Z, aa, E⟩ := (se [ae] bX).g8 h2 h3 C V W Z aa E
   rintro o7 o8 ⟨⟨_, rfl, ⟨ec, o9, ed, ee, pa, ef, rfl, ab, ac⟩⟩, c7⟩
   have c8 := al1 C.lt
   have eO : Gb w.heap.size eN.heap.size := E.size
   have hkeep_ := c7
   replace ⟨h2, h3, C, V, W, Z, aa, E⟩ := (se [ae] c7).g8 h2 h3 C V W Z aa E
   clear c7
   refine ⟨Ext.chg hkeep_, ?_⟩
   have ab := ab.fr c8 eO
   have mj := ab.max
   have ac := ac.fr c8 eO
   have ml := ac.max
   clear c8
   have hC := ab.len
   subst hC
   have hD := ac.len
   subst hD
   refine .go 17 <| .nw (fun b => .pointer (some ⟨b, 0, none⟩)) 68 [.slice none 0 0, .slice none 0 0] fun pb eP => ?_
   replace ⟨h2, h3, C, V, W, Z, aa, ab, ac, E⟩ := (se [ae] eP).g10 h2 h3 C V W Z aa ab ac E
   clear eP
   intro ah pc cF eQ c9 hE
   have mm := nb_new cF C.lt
   have mn := E.cn cF
   replace ⟨h2, h3, C, V, W, Z, aa, ab, ac, E⟩ := (sn [ae] eQ cF).g10 h2 h3 C V W Z aa ab ac E
   clear eQ hE cF
   refine .d fun pd eR => ?_
   replace ⟨h2, h3, C, V, W, Z, aa, ab, ac, c9, E⟩ := (se [ah, ae] eR).g11 h2 h3 C V W Z aa ab ac c9 E
   clear eR
   refine .sc [.slice ec (((pMerge aB.part ar.part).ids).length) ed, .slice ee (((pMerge aB.part ar.part).blocks).length) ef] c9 fun cy eS J hH => ?_
   replace ⟨h2, h3, C, V, W, Z, aa, ab, ac, E⟩ := (so [ah, ae] eS).g10 h2 h3 C V W Z aa ab ac E
   clear eS hH
   refine .d <| .s ?_
   replace h2 := h2.into
   replace h3 := h3.into
   replace V := V.into
   replace W := W.into
   replace Z := Z.into
   replace aa := aa.into
   replace ab := ab.into
   replace ac := ac.into
   have da : Gb (ae + 1) cy.heap.size := C.lt
   refine .gd (mtb [] cy.heap.size) 15 fun k7 db => ?_
   replace ⟨h2, h3, C, V, W, Z, aa, ab, ac, J, E⟩ := (se [ah, ae] db).g11 h2 h3 C V W Z aa ab ac J E
   have ao : Chg (mtb [] cy.heap.size) cy k7 := Chg.stepN (Chg.refl (mtb [] cy.heap.size) cy) db
   clear db
   refine .r [1] <| .lb 2 C (nS_of all_nil da) <| .r [3] <| GA.sub (i := 4) (t := 49) (lo := none) (hi := some (vI at_)) (by kernel_rfl) h2 0 ((at_).toNat) (by kernel_rfl) (by kernel_rfl) (.inl ⟨rfl, rfl⟩) (.inr ⟨_, _, rfl, by omega⟩) (by omega) (by omega) fun eT eU ak => ?_
   have mo := ak.len; have mp := ak.max
   refine .r [6] <| .lb 7 C (nS_of all_nil da) <| .r [10] <| .lb 11 C (nS_of all_nil da) <| .r [12] <| GA.int (i := 13) (at_ + 2) (by kernel_rfl) (by omega) <| GA.sub (i := 14) (t := 49) (lo := some (vI (at_ + 2))) (hi := none) (by kernel_rfl) h2 ((at_ + 2).toNat) d.list.length (by kernel_rfl) (by kernel_rfl) (.inr ⟨_, _, rfl, by omega⟩) (.inl ⟨rfl, rfl⟩) (by omega) (by omega) fun pe pf ai => ?_
   have mq := ai.len; have mr := ai.max
   refine .tw 0 8 ?_ ?_
   · refine .ns 0 3 [] fun pg dd => ?_
     replace ⟨h2, h3, C, V, W, Z, aa, ab, ac, J, ak, ai⟩ := (se [ah, ae] dd).g12 h2 h3 C V W Z aa ab ac J ak ai
     replace ⟨E, ao⟩ := (se [ah, ae] dd).g2 E ao
     clear dd
     intro aC k8 bg de hJ hN
     have eV := nb_new bg C.lt
     have eW := nb_new bg J.lt
     have eX := gb_new bg E.size
     have eY := E.cn bg
     have cG := ao.cn bg
     replace ⟨h2, h3, C, V, W, Z, aa, ab, ac, J, ak, ai⟩ := (sn [ah, ae] de bg).g12 h2 h3 C V W Z aa ab ac J ak ai
     replace ⟨E, ao⟩ := (sn [ah, ae] de bg).g2 E ao
     clear de hN bg
     have aO : Own (α := Int) k8 aC 3 (nin (ge w.heap.size) [aC, ah, ae]) 0 0 [] := Own.nil' hJ
     refine .tw 5 8 ?_ ?_
     · refine GE.append (T := 49) (ty := 49) (args := [vS aC 0 0, .slice eT ((at_).toNat - 0) eU]) (by kernel_rfl) fun ph df => ?_
       replace ⟨h2, h3, C, V, W, Z, aa, ab, ac, J, ak, ai⟩ := (se [aC, ah, ae] df).g12 h2 h3 C V W Z aa ab ac J ak ai
       replace ⟨aO, E, ao⟩ := (se [aC, ah, ae] df).g3 aO E ao
       clear df
       obtain ⟨bc, k9, pi, eZ, aF, aQ, cH, hO⟩ := Own.appendF (P := Tryz.prog) (T := 49) (ty := 49) flat_int aO (by kernel_rfl) ak (fun b h e => h.2 (e ▸ (.head _))) (by omega)
       refine ⟨_, _, eZ, Chg.toS cH (Cov.toS cG), ?_⟩
       clear hO
       have hP := nb_or aQ eV C.lt
       have hQ := nb_or aQ eW J.lt
       have hV := gb_or aQ eX E.size
       have hW := cov_or aQ eY E.size
       have hX := cov_or aQ cG ao.size
       replace ⟨h2, h3, C, V, W, Z, aa, ab, ac, J, ak, ai⟩ := (sa [aC, ah, ae] cH aQ).g12 h2 h3 C V W Z aa ab ac J ak ai
       replace ⟨E, ao⟩ := (sa [aC, ah, ae] cH aQ).g2 E ao
       clear cH
       replace aF := aF.rn aC
       clear aQ
       have mt := aF.len; have mu := aF.max
       refine .go 8 <| .ns 1 3 [vI d.next] fun pj dg => ?_
       replace ⟨h2, h3, C, V, W, Z, aa, ab, ac, J, ak, ai⟩ := (se [bc, ah, ae] dg).g12 h2 h3 C V W Z aa ab ac J ak ai
       replace ⟨aF, E, ao⟩ := (se [bc, ah, ae] dg).g3 aF E ao
       clear dg
       intro e0 pk ci dh di hY
       have hZ := nb_new ci C.lt
       have ia := nb_new ci J.lt
       have e7 := nb_new ci aF.lt
       have ic := gb_new ci E.size
       replace ⟨h2, h3, C, V, W, Z, aa, ab, ac, J, ak, ai⟩ := (se [bc, ah, ae] dh).g12 h2 h3 C V W Z aa ab ac J ak ai
       replace ⟨aF, E, ao⟩ := (se [bc, ah, ae] dh).g3 aF E ao
       clear dh hY ci
       refine .go 9 <| GE.append (T := 49) (ty := 49) (args := [vS bc (0 + ((at_).toNat - 0)) k9, vS e0 1 1]) (by kernel_rfl) fun pl dj => ?_
       replace ⟨h2, h3, C, V, W, Z, aa, ab, ac, J, ak, ai⟩ := (se [bc, ah, ae] dj).g12 h2 h3 C V W Z aa ab ac J ak ai
       replace ⟨aF, di, E, ao⟩ := (se [bc, ah, ae] dj).g4 aF di E ao
       clear dj
       have ey : nin (ge w.heap.size) [bc, ah, ae] e0 ∧ e0 ≠ bc := hap_mk ic (all_cons e7 (all_cons ia (all_cons hZ all_nil))) e7
       obtain ⟨cW, pm, pn, e8, bA, aX, cI, ie⟩ := aF.append1 (P := Tryz.prog) (T := 49) (ty := 49) (y := d.next) (by kernel_rfl) di rfl ey (by omega)
       refine ⟨_, _, e8, Chg.toS cI (Cov.toS hX), ?_⟩
       clear ie
       have ig := nb_or aX hP C.lt
       have ii := nb_or aX hQ J.lt
       have ij := gb_or aX hV E.size
       have mw := cov_or aX hW E.size
       replace ⟨h2, h3, C, V, W, Z, aa, ab, ac, J, ak, ai⟩ := (sa [bc, ah, ae] cI aX).g12 h2 h3 C V W Z aa ab ac J ak ai
       replace ⟨E, ao⟩ := (sa [bc, ah, ae] cI aX).g2 E ao
       clear cI
       replace bA := bA.rn bc
       clear aX
       have mx := bA.len; have my := bA.max
       refine .d fun po dk => ?_
       replace ⟨h2, h3, C, V, W, Z, aa, ab, ac, J, ak, ai⟩ := (se [cW, ah, ae] dk).g12 h2 h3 C V W Z aa ab ac J ak ai
       replace ⟨bA, E, ao⟩ := (se [cW, ah, ae] dk).g3 bA E ao
       clear dk
       replace h2 := h2.outof
       replace h3 := h3.outof
       replace V := V.outof
       replace W := W.outof
       replace Z := Z.outof
       replace aa := aa.outof
       replace ab := ab.outof
       replace ac := ac.outof
       replace ak := ak.outof
       replace ai := ai.outof
       refine RG.appendF (T := 49) (ty := 49) flat_int bA ai (by kernel_rfl) (by kernel_rfl) (fun b h e => h.2 (e ▸ (.head _))) (by omega) fun aR lc pp au bo dm => ?_
       have mz := nb_or bo ig C.lt
       have mA := nb_or bo ii J.lt
       have ik := gb_or bo ij E.size
       replace ⟨h2, h3, C, V, W, Z, aa, ab, ac, J, ak, ai⟩ := (sa [cW, ah, ae] dm bo).g12 h2 h3 C V W Z aa ab ac J ak ai
       replace E := (sa [cW, ah, ae] dm bo).g1 E
       clear dm
       replace au := au.rn cW
       clear bo
       have mB := au.len; have mC := au.max
       refine .r 1 <| .d <| .s <| .gd nil 13 fun pq dp => ?_
       replace ⟨h2, h3, C, V, W, Z, aa, ab, ac, J, ak, ai⟩ := (se [aR, ah, ae] dp).g12 h2 h3 C V W Z aa ab ac J ak ai
       replace ⟨au, E⟩ := (se [aR, ah, ae] dp).g2 au E
       clear dp
       refine .r [0] <| .lb 1 C id <| .ln 2 J id <| .r [3, 4, 5] <| .lb 6 C id <| .r [9, 10, 11, 12] <| .go 7 <| .cl (fun e9 cJ => c_spec_l11Names d.names (h3.ta.ext cJ) (by omega) (by intro n hn; have := p1 n hn; omega) (w := e9) (F := all)) ?_
       intro e9 cJ
       replace ⟨h2, h3, C, V, W, Z, aa, ab, ac, J, ak, ai⟩ := (se [aR, ah, ae] cJ).g12 h2 h3 C V W Z aa ab ac J ak ai
       replace ⟨au, E⟩ := (se [aR, ah, ae] cJ).g2 au E
       rintro pr pu ⟨⟨b8, ld, lf, rfl, aG, bB⟩, cK⟩
       have fa := al3 au.lt J.lt C.lt
       have il : Gb w.heap.size e9.heap.size := E.size
       have hkeep_ := cK
       have mD := nb_ge bB C.lt
       have mE := nb_ge bB J.lt
       have mF := nb_ge bB au.lt
       have im := gb_ge bB E.size
       replace ⟨h2, h3, C, V, W, Z, aa, ab, ac, J, ak, ai⟩ := (sz [aR, ah, ae] cK bB).g12 h2 h3 C V W Z aa ab ac J ak ai
       replace ⟨au, E⟩ := (sz [aR, ah, ae] cK bB).g2 au E
       clear cK bB
       refine ⟨Ext.chg hkeep_, ?_⟩
       replace aG := Own.take (s0 := w.heap.size) (M := [aR, ah, ae]) aG fa il
       have mG := aG.len; have mH := aG.max
       clear fa
       refine .r [8] <| .d fun pv dq => ?_
       replace ⟨h2, h3, C, V, W, Z, aa, ab, ac, J, ak, ai⟩ := (se [b8, aR, ah, ae] dq).g12 h2 h3 C V W Z aa ab ac J ak ai
       replace ⟨au, aG, E⟩ := (se [b8, aR, ah, ae] dq).g3 au aG E
       clear dq
       refine .ns 4 162 [vI 1, vI d.next, .slice ec (((pMerge aB.part ar.part).ids).length) ed, .slice ee (((pMerge aB.part ar.part).blocks).length) ef, .slice none 0 0, .slice none 0 0, vI 2, vI 0, .slice none 0 0, .slice none 0 0, vS aR (0 + ((at_).toNat - 0) + 1 + (d.list.length - (at_ + 2).toNat)) lc, vS b8 ld lf, vI 3, vI aV, .slice none 0 0, .slice none 0 0, .slice none 0 0, .slice none 0 0, vI 3, vI aW, .slice none 0 0, .slice none 0 0, .slice none 0 0, .slice none 0 0] fun cj eg bh dr io ip => ?_
       have mI := nb_new bh C.lt
       have mJ := nb_new bh J.lt
       have mK := nb_new bh au.lt
       have mL := nb_new bh aG.lt
       have iq := gb_new bh E.size
       replace ⟨h2, h3, C, V, W, Z, aa, ab, ac, J, ak, ai⟩ := (sn [b8, aR, ah, ae] dr bh).g12 h2 h3 C V W Z aa ab ac J ak ai
       replace ⟨au, aG, E⟩ := (sn [b8, aR, ah, ae] dr bh).g3 au aG E
       clear dr ip bh
       have fb := au.sl ik
       replace ⟨h2, h3, V, W, Z, aa, ab, ac, ak, ai, aG⟩ := (sd eg [cj, b8, aR, ah, ae] aR).g11 h2 h3 V W Z aa ab ac ak ai aG
       have li := aG.sl im
       replace ⟨h2, h3, V, W, Z, aa, ab, ac, ak, ai, fb⟩ := (sd eg [cj, b8, ah, ae] b8).g11 h2 h3 V W Z aa ab ac ak ai fb
       have ir : Own (α := Stp) eg cj 162 (nin (ge w.heap.size) [cj, ah, ae]) 4 4 [(⟨1, d.next, (⟨(pMerge aB.part ar.part).ids, (pMerge aB.part ar.part).blocks⟩ : Prt), ([] : List Int), ([] : List (List Tag))⟩ : Stp), (⟨2, 0, (⟨([] : List Int), ([] : List (List Row))⟩ : Prt), ((([] ++ ((d.list.take ((at_).toNat)).drop 0)) ++ [d.next]) ++ ((d.list.take d.list.length).drop ((at_ + 2).toNat))), d.names⟩ : Stp), (⟨3, aV, (⟨([] : List Int), ([] : List (List Row))⟩ : Prt), ([] : List Int), ([] : List (List Tag))⟩ : Stp), (⟨3, aW, (⟨([] : List Int), ([] : List (List Row))⟩ : Prt), ([] : List Int), ([] : List (List Tag))⟩ : Stp)] := Own.lit io rfl (by decide) ⟨⟨_, _, _, _, _, _, _, _, _, _, _, _, rfl, ab.oi, ac.oi, (RepS.nil' _ _ none 0 (by decide)), (RepS.nil' _ _ none 0 (by decide))⟩, ⟨_, _, _, _, _, _, _, _, _, _, _, _, rfl, (RepS.nil' _ _ none 0 (by decide)), (RepS.nil' _ _ none 0 (by decide)), fb.oi, li.oi⟩, ⟨_, _, _, _, _, _, _, _, _, _, _, _, rfl, (RepS.nil' _ _ none 0 (by decide)), (RepS.nil' _ _ none 0 (by decide)), (RepS.nil' _ _ none 0 (by decide)), (RepS.nil' _ _ none 0 (by decide))⟩, ⟨_, _, _, _, _, _, _, _, _, _, _, _, rfl, (RepS.nil' _ _ none 0 (by decide)), (RepS.nil' _ _ none 0 (by decide)), (RepS.nil' _ _ none 0 (by decide)), (RepS.nil' _ _ none 0 (by decide))⟩, rfl⟩
       refine .r 1 <| .d ?_
       have lj := ir.sl iq
       replace ⟨h2, h3, V, W, Z, aa, ab, ac, ak, ai⟩ := (sd eg [cj, ah, ae] cj).g10 h2 h3 V W Z aa ab ac ak ai
       exact .rt Tryz.func95 Tryz.results95 (vS cj 4 4) ⟨(lj.vl (by first | rw [merge_no (.inl (by assumption))] | rw [merge_no (.inr (.inl (by assumption)))] | rw [merge_no (.inr (.inr (by assumption)))] | rw [merge_yes (by assumption) (by assumption) (by assumption) (by assumption) (by assumption) (by assumption) (by assumption)]) (fun _ _ h => h.1)), E⟩
     refine .ns 1 3 [vI d.next] fun pw dt => ?_
     replace ⟨h2, h3, C, V, W, Z, aa, ab, ac, J, ak, ai⟩ := (se [aC, ah, ae] dt).g12 h2 h3 C V W Z aa ab ac J ak ai
     replace ⟨aO, E, ao⟩ := (se [aC, ah, ae] dt).g3 aO E ao
     clear dt
     intro fc px ck du bi iu
     have iw := nb_new ck C.lt
     have iy := nb_new ck J.lt
     have iz := nb_new ck aO.lt
     have iA := gb_new ck E.size
     replace ⟨h2, h3, C, V, W, Z, aa, ab, ac, J, ak, ai⟩ := (se [aC, ah, ae] du).g12 h2 h3 C V W Z aa ab ac J ak ai
     replace ⟨aO, E, ao⟩ := (se [aC, ah, ae] du).g3 aO E ao
     clear du iu ck
     refine .go 5 <| GE.append (T := 49) (ty := 49) (args := [vS aC 0 0, .slice eT ((at_).toNat - 0) eU]) (by kernel_rfl) fun py dv => ?_
     replace ⟨h2, h3, C, V, W, Z, aa, ab, ac, J, ak, ai⟩ := (se [aC, ah, ae] dv).g12 h2 h3 C V W Z aa ab ac J ak ai
     replace ⟨aO, bi, E, ao⟩ := (se [aC, ah, ae] dv).g4 aO bi E ao
     clear dv
     obtain ⟨b9, lk, pz, fd, bC, aM, cL, iB⟩ := Own.appendF (P := Tryz.prog) (T := 49) (ty := 49) flat_int aO (by kernel_rfl) ak (fun b h e => h.2 (e ▸ (.head _))) (by omega)
     refine ⟨_, _, fd, Chg.toS cL (Cov.toS cG), ?_⟩
     clear iB
     have iC := nb_or aM eV C.lt
     have iD := nb_or aM eW J.lt
     have fe := nb_or aM (Nb.symm iz) bi.lt
     have iE := gb_or aM eX E.size
     have iF := cov_or aM eY E.size
     have iG := cov_or aM cG ao.size
     replace ⟨h2, h3, C, V, W, Z, aa, ab, ac, J, ak, ai⟩ := (sa [aC, ah, ae] cL aM).g12 h2 h3 C V W Z aa ab ac J ak ai
     replace ⟨bi, E, ao⟩ := (sa [aC, ah, ae] cL aM).g3 bi E ao
     clear cL
     replace bC := bC.rn aC
     clear aM
     have mM := bC.len; have mN := bC.max
     refine .go 9 <| GE.append (T := 49) (ty := 49) (args := [vS b9 (0 + ((at_).toNat - 0)) lk, vS fc 1 1]) (by kernel_rfl) fun pA dw => ?_
     replace ⟨h2, h3, C, V, W, Z, aa, ab, ac, J, ak, ai⟩ := (se [b9, ah, ae] dw).g12 h2 h3 C V W Z aa ab ac J ak ai
     replace ⟨bC, bi, E, ao⟩ := (se [b9, ah, ae] dw).g4 bC bi E ao
     clear dw
     have ez : nin (ge w.heap.size) [b9, ah, ae] fc ∧ fc ≠ b9 := hap_mk iA (all_cons (Nb.symm fe) (all_cons iy (all_cons iw all_nil))) (Nb.symm fe)
     obtain ⟨cX, pB, pC, ff, bD, aY, cM, iH⟩ := bC.append1 (P := Tryz.prog) (T := 49) (ty := 49) (y := d.next) (by kernel_rfl) bi rfl ez (by omega)
     refine ⟨_, _, ff, Chg.toS cM (Cov.toS iG), ?_⟩
     clear iH
     have iI := nb_or aY iC C.lt
     have iJ := nb_or aY iD J.lt
     have iK := gb_or aY iE E.size
     have mO := cov_or aY iF E.size
     replace ⟨h2, h3, C, V, W, Z, aa, ab, ac, J, ak, ai⟩ := (sa [b9, ah, ae] cM aY).g12 h2 h3 C V W Z aa ab ac J ak ai
     replace ⟨E, ao⟩ := (sa [b9, ah, ae] cM aY).g2 E ao
     clear cM
     replace bD := bD.rn b9
     clear aY
     have mP := bD.len; have mQ := bD.max
     refine .d fun pD dx => ?_
     replace ⟨h2, h3, C, V, W, Z, aa, ab, ac, J, ak, ai⟩ := (se [cX, ah, ae] dx).g12 h2 h3 C V W Z aa ab ac J ak ai
     replace ⟨bD, E, ao⟩ := (se [cX, ah, ae] dx).g3 bD E ao
     clear dx
     replace h2 := h2.outof
     replace h3 := h3.outof
     replace V := V.outof
     replace W := W.outof
     replace Z := Z.outof
     replace aa := aa.outof
     replace ab := ab.outof
     replace ac := ac.outof
     replace ak := ak.outof
     replace ai := ai.outof
     refine RG.appendF (T := 49) (ty := 49) flat_int bD ai (by kernel_rfl) (by kernel_rfl) (fun b h e => h.2 (e ▸ (.head _))) (by omega) fun aS ll pE av bq dy => ?_
     have mR := nb_or bq iI C.lt
     have mS := nb_or bq iJ J.lt
     have iL := gb_or bq iK E.size
     replace ⟨h2, h3, C, V, W, Z, aa, ab, ac, J, ak, ai⟩ := (sa [cX, ah, ae] dy bq).g12 h2 h3 C V W Z aa ab ac J ak ai
     replace E := (sa [cX, ah, ae] dy bq).g1 E
     clear dy
     replace av := av.rn cX
     clear bq
     have mT := av.len; have mU := av.max
     refine .r 1 <| .d <| .s <| .gd nil 13 fun pF dz => ?_
     replace ⟨h2, h3, C, V, W, Z, aa, ab, ac, J, ak, ai⟩ := (se [aS, ah, ae] dz).g12 h2 h3 C V W Z aa ab ac J ak ai
     replace ⟨av, E⟩ := (se [aS, ah, ae] dz).g2 av E
     clear dz
     refine .r [0] <| .lb 1 C id <| .ln 2 J id <| .r [3, 4, 5] <| .lb 6 C id <| .r [9, 10, 11, 12] <| .go 7 <| .cl (fun fg cN => c_spec_l11Names d.names (h3.ta.ext cN) (by omega) (by intro n hn; have := p1 n hn; omega) (w := fg) (F := all)) ?_
     intro fg cN
     replace ⟨h2, h3, C, V, W, Z, aa, ab, ac, J, ak, ai⟩ := (se [aS, ah, ae] cN).g12 h2 h3 C V W Z aa ab ac J ak ai
     replace ⟨av, E⟩ := (se [aS, ah, ae] cN).g2 av E
     rintro pG pH ⟨⟨cd, lm, lp, rfl, aH, bE⟩, cO⟩
     have fh := al3 av.lt J.lt C.lt
     have iM : Gb w.heap.size fg.heap.size := E.size
     have hkeep_ := cO
     have mV := nb_ge bE C.lt
     have mW := nb_ge bE J.lt
     have mX := nb_ge bE av.lt
     have iN := gb_ge bE E.size
     replace ⟨h2, h3, C, V, W, Z, aa, ab, ac, J, ak, ai⟩ := (sz [aS, ah, ae] cO bE).g12 h2 h3 C V W Z aa ab ac J ak ai
     replace ⟨av, E⟩ := (sz [aS, ah, ae] cO bE).g2 av E
     clear cO bE
     refine ⟨Ext.chg hkeep_, ?_⟩
     replace aH := Own.take (s0 := w.heap.size) (M := [aS, ah, ae]) aH fh iM
     have mY := aH.len; have mZ := aH.max
     clear fh
     refine .r [8] <| .d fun pI dA => ?_
     replace ⟨h2, h3, C, V, W, Z, aa, ab, ac, J, ak, ai⟩ := (se [cd, aS, ah, ae] dA).g12 h2 h3 C V W Z aa ab ac J ak ai
     replace ⟨av, aH, E⟩ := (se [cd, aS, ah, ae] dA).g3 av aH E
     clear dA
     refine .ns 4 162 [vI 1, vI d.next, .slice ec (((pMerge aB.part ar.part).ids).length) ed, .slice ee (((pMerge aB.part ar.part).blocks).length) ef, .slice none 0 0, .slice none 0 0, vI 2, vI 0, .slice none 0 0, .slice none 0 0, vS aS (0 + ((at_).toNat - 0) + 1 + (d.list.length - (at_ + 2).toNat)) ll, vS cd lm lp, vI 3, vI aV, .slice none 0 0, .slice none 0 0, .slice none 0 0, .slice none 0 0, vI 3, vI aW, .slice none 0 0, .slice none 0 0, .slice none 0 0, .slice none 0 0] fun cm eh bj dB iO iP => ?_
     have m0 := nb_new bj C.lt
     have m1 := nb_new bj J.lt
     have m2 := nb_new bj av.lt
     have m3 := nb_new bj aH.lt
     have iQ := gb_new bj E.size
     replace ⟨h2, h3, C, V, W, Z, aa, ab, ac, J, ak, ai⟩ := (sn [cd, aS, ah, ae] dB bj).g12 h2 h3 C V W Z aa ab ac J ak ai
     replace ⟨av, aH, E⟩ := (sn [cd, aS, ah, ae] dB bj).g3 av aH E
     clear dB iP bj
     have fi := av.sl iL
     replace ⟨h2, h3, V, W, Z, aa, ab, ac, ak, ai, aH⟩ := (sd eh [cm, cd, aS, ah, ae] aS).g11 h2 h3 V W Z aa ab ac ak ai aH
     have lq := aH.sl iN
     replace ⟨h2, h3, V, W, Z, aa, ab, ac, ak, ai, fi⟩ := (sd eh [cm, cd, ah, ae] cd).g11 h2 h3 V W Z aa ab ac ak ai fi
     have iR : Own (α := Stp) eh cm 162 (nin (ge w.heap.size) [cm, ah, ae]) 4 4 [(⟨1, d.next, (⟨(pMerge aB.part ar.part).ids, (pMerge aB.part ar.part).blocks⟩ : Prt), ([] : List Int), ([] : List (List Tag))⟩ : Stp), (⟨2, 0, (⟨([] : List Int), ([] : List (List Row))⟩ : Prt), ((([] ++ ((d.list.take ((at_).toNat)).drop 0)) ++ [d.next]) ++ ((d.list.take d.list.length).drop ((at_ + 2).toNat))), d.names⟩ : Stp), (⟨3, aV, (⟨([] : List Int), ([] : List (List Row))⟩ : Prt), ([] : List Int), ([] : List (List Tag))⟩ : Stp), (⟨3, aW, (⟨([] : List Int), ([] : List (List Row))⟩ : Prt), ([] : List Int), ([] : List (List Tag))⟩ : Stp)] := Own.lit iO rfl (by decide) ⟨⟨_, _, _, _, _, _, _, _, _, _, _, _, rfl, ab.oi, ac.oi, (RepS.nil' _ _ none 0 (by decide)), (RepS.nil' _ _ none 0 (by decide))⟩, ⟨_, _, _, _, _, _, _, _, _, _, _, _, rfl, (RepS.nil' _ _ none 0 (by decide)), (RepS.nil' _ _ none 0 (by decide)), fi.oi, lq.oi⟩, ⟨_, _, _, _, _, _, _, _, _, _, _, _, rfl, (RepS.nil' _ _ none 0 (by decide)), (RepS.nil' _ _ none 0 (by decide)), (RepS.nil' _ _ none 0 (by decide)), (RepS.nil' _ _ none 0 (by decide))⟩, ⟨_, _, _, _, _, _, _, _, _, _, _, _, rfl, (RepS.nil' _ _ none 0 (by decide)), (RepS.nil' _ _ none 0 (by decide)), (RepS.nil' _ _ none 0 (by decide)), (RepS.nil' _ _ none 0 (by decide))⟩, rfl⟩
     refine .r 1 <| .d ?_
     have ls := iR.sl iQ
     replace ⟨h2, h3, V, W, Z, aa, ab, ac, ak, ai⟩ := (sd eh [cm, ah, ae] cm).g10 h2 h3 V W Z aa ab ac ak ai
     exact .rt Tryz.func95 Tryz.results95 (vS cm 4 4) ⟨(ls.vl (by first | rw [merge_no (.inl (by assumption))] | rw [merge_no (.inr (.inl (by assumption)))] | rw [merge_no (.inr (.inr (by assumption)))] | rw [merge_yes (by assumption) (by assumption) (by assumption) (by assumption) (by assumption) (by assumption) (by assumption)]) (fun _ _ h => h.1)), E⟩
   refine .ns 1 3 [vI d.next] fun pJ dC => ?_
   replace ⟨h2, h3, C, V, W, Z, aa, ab, ac, J, ak, ai⟩ := (se [ah, ae] dC).g12 h2 h3 C V W Z aa ab ac J ak ai
   replace ⟨E, ao⟩ := (se [ah, ae] dC).g2 E ao
   clear dC
   intro fj pK cP dD aD iS
   have iT := nb_new cP C.lt
   have iU := nb_new cP J.lt
   have iV := gb_new cP E.size
   replace ⟨h2, h3, C, V, W, Z, aa, ab, ac, J, ak, ai⟩ := (se [ah, ae] dD).g12 h2 h3 C V W Z aa ab ac J ak ai
   replace ⟨E, ao⟩ := (se [ah, ae] dD).g2 E ao
   clear dD iS cP
   refine .go 0 <| .ns 0 3 [] fun pL dE => ?_
   replace ⟨h2, h3, C, V, W, Z, aa, ab, ac, J, ak, ai⟩ := (se [ah, ae] dE).g12 h2 h3 C V W Z aa ab ac J ak ai
   replace ⟨aD, E, ao⟩ := (se [ah, ae] dE).g3 aD E ao
   clear dE
   intro ce lu aZ dF iW iX
   have iY := nb_new aZ C.lt
   have iZ := nb_new aZ J.lt
   have ja := nb_new aZ aD.lt
   have jb := gb_new aZ E.size
   have jc := E.cn aZ
   have fk := ao.cn aZ
   replace ⟨h2, h3, C, V, W, Z, aa, ab, ac, J, ak, ai⟩ := (sn [ah, ae] dF aZ).g12 h2 h3 C V W Z aa ab ac J ak ai
   replace ⟨aD, E, ao⟩ := (sn [ah, ae] dF aZ).g3 aD E ao
   clear dF iX aZ
   have dG : Own (α := Int) lu ce 3 (nin (ge w.heap.size) [ce, ah, ae]) 0 0 [] := Own.nil' iW
   refine .go 5 <| GE.append (T := 49) (ty := 49) (args := [vS ce 0 0, .slice eT ((at_).toNat - 0) eU]) (by kernel_rfl) fun pM dH => ?_
   replace ⟨h2, h3, C, V, W, Z, aa, ab, ac, J, ak, ai⟩ := (se [ce, ah, ae] dH).g12 h2 h3 C V W Z aa ab ac J ak ai
   replace ⟨aD, dG, E, ao⟩ := (se [ce, ah, ae] dH).g4 aD dG E ao
   clear dH
   obtain ⟨co, lv, pN, fl, bF, aN, cQ, jd⟩ := Own.appendF (P := Tryz.prog) (T := 49) (ty := 49) flat_int dG (by kernel_rfl) ak (fun b h e => h.2 (e ▸ (.head _))) (by omega)
   refine ⟨_, _, fl, Chg.toS cQ (Cov.toS fk), ?_⟩
   clear jd
   have je := nb_or aN iY C.lt
   have jf := nb_or aN iZ J.lt
   have fm := nb_or aN ja aD.lt
   have jg := gb_or aN jb E.size
   have jh := cov_or aN jc E.size
   have ji := cov_or aN fk ao.size
   replace ⟨h2, h3, C, V, W, Z, aa, ab, ac, J, ai, aD⟩ := (sa [ce, ah, ae] cQ aN).g12 h2 h3 C V W Z aa ab ac J ai aD
   replace E := (sa [ce, ah, ae] cQ aN).g1 E
   clear cQ
   replace bF := bF.rn ce
   clear aN
   have m4 := bF.len; have m5 := bF.max
   refine .go 9 <| GE.append (T := 49) (ty := 49) (args := [vS co (0 + ((at_).toNat - 0)) lv, vS fj 1 1]) (by kernel_rfl) fun pO dI => ?_
   replace ⟨h2, h3, C, V, W, Z, aa, ab, ac, J, ai, aD⟩ := (se [co, ah, ae] dI).g12 h2 h3 C V W Z aa ab ac J ai aD
   replace ⟨bF, E⟩ := (se [co, ah, ae] dI).g2 bF E
   clear dI
   have eA : nin (ge w.heap.size) [co, ah, ae] fj ∧ fj ≠ co := hap_mk iV (all_cons (Nb.symm fm) (all_cons iU (all_cons iT all_nil))) (Nb.symm fm)
   obtain ⟨ei, pP, pQ, fp, bG, br, dJ, jj⟩ := bF.append1 (P := Tryz.prog) (T := 49) (ty := 49) (y := d.next) (by kernel_rfl) aD rfl eA (by omega)
   refine ⟨_, _, fp, Chg.toS dJ (Cov.toS ji), ?_⟩
   clear jj
   have jk := nb_or br je C.lt
   have jl := nb_or br jf J.lt
   have jm := gb_or br jg E.size
   have m6 := cov_or br jh E.size
   replace ⟨h2, h3, C, V, W, Z, aa, ab, ac, J, ai, E⟩ := (sa [co, ah, ae] dJ br).g12 h2 h3 C V W Z aa ab ac J ai E
   clear dJ
   replace bG := bG.rn co
   clear br
   have m7 := bG.len; have m8 := bG.max
   refine .d fun pR dK => ?_
   replace ⟨h2, h3, C, V, W, Z, aa, ab, ac, J, ai, bG⟩ := (se [ei, ah, ae] dK).g12 h2 h3 C V W Z aa ab ac J ai bG
   replace E := (se [ei, ah, ae] dK).g1 E
   clear dK
   replace h2 := h2.outof
   replace h3 := h3.outof
   replace V := V.outof
   replace W := W.outof
   replace Z := Z.outof
   replace aa := aa.outof
   replace ab := ab.outof
   replace ac := ac.outof
   replace ai := ai.outof
   refine RG.appendF (T := 49) (ty := 49) flat_int bG ai (by kernel_rfl) (by kernel_rfl) (fun b h e => h.2 (e ▸ (.head _))) (by omega) fun bz lw pS aw bQ fq => ?_
   have m9 := nb_or bQ jk C.lt
   have nc := nb_or bQ jl J.lt
   have jn := gb_or bQ jm E.size
   replace ⟨h2, h3, C, V, W, Z, aa, ab, ac, J, E⟩ := (sa [ei, ah, ae] fq bQ).g11 h2 h3 C V W Z aa ab ac J E
   clear fq
   replace aw := aw.rn ei
   clear bQ
   have ng := aw.len; have nh := aw.max
   refine .r 1 <| .d <| .s <| .gd nil 13 fun pT ft => ?_
   replace ⟨h2, h3, C, V, W, Z, aa, ab, ac, J, aw, E⟩ := (se [bz, ah, ae] ft).g12 h2 h3 C V W Z aa ab ac J aw E
   clear ft
   refine .r [0] <| .lb 1 C id <| .ln 2 J id <| .r [3, 4, 5] <| .lb 6 C id <| .r [9, 10, 11, 12] <| .go 7 <| .cl (fun fu dL => c_spec_l11Names d.names (h3.ta.ext dL) (by omega) (by intro n hn; have := p1 n hn; omega) (w := fu) (F := all)) ?_
   intro fu dL
   replace ⟨h2, h3, C, V, W, Z, aa, ab, ac, J, aw, E⟩ := (se [bz, ah, ae] dL).g12 h2 h3 C V W Z aa ab ac J aw E
   rintro pU pV ⟨⟨cp, ly, lz, rfl, aI, bY⟩, dM⟩
   have fv := al3 aw.lt J.lt C.lt
   have jo : Gb w.heap.size fu.heap.size := E.size
   have hkeep_ := dM
   have ni := nb_ge bY C.lt
   have nj := nb_ge bY J.lt
   have nk := nb_ge bY aw.lt
   have jp := gb_ge bY E.size
   replace ⟨h2, h3, C, V, W, Z, aa, ab, ac, J, aw, E⟩ := (sz [bz, ah, ae] dM bY).g12 h2 h3 C V W Z aa ab ac J aw E
   clear dM bY
   refine ⟨Ext.chg hkeep_, ?_⟩
   replace aI := Own.take (s0 := w.heap.size) (M := [bz, ah, ae]) aI fv jo
   have nq := aI.len; have nt := aI.max
   clear fv
   refine .r [8] <| .d fun pW dN => ?_
   replace ⟨h2, h3, C, V, W, Z, aa, ab, ac, J, aw, aI⟩ := (se [cp, bz, ah, ae] dN).g12 h2 h3 C V W Z aa ab ac J aw aI
   replace E := (se [cp, bz, ah, ae] dN).g1 E
   clear dN
   refine .ns 4 162 [vI 1, vI d.next, .slice ec (((pMerge aB.part ar.part).ids).length) ed, .slice ee (((pMerge aB.part ar.part).blocks).length) ef, .slice none 0 0, .slice none 0 0, vI 2, vI 0, .slice none 0 0, .slice none 0 0, vS bz (0 + ((at_).toNat - 0) + 1 + (d.list.length - (at_ + 2).toNat)) lw, vS cp ly lz, vI 3, vI aV, .slice none 0 0, .slice none 0 0, .slice none 0 0, .slice none 0 0, vI 3, vI aW, .slice none 0 0, .slice none 0 0, .slice none 0 0, .slice none 0 0] fun cq ej bH fw jq jr => ?_
   have nu := nb_new bH C.lt
   have nv := nb_new bH J.lt
   have ny := nb_new bH aw.lt
   have nz := nb_new bH aI.lt
   have js := gb_new bH E.size
   replace ⟨h2, h3, C, V, W, Z, aa, ab, ac, aw, aI, E⟩ := (sn [cp, bz, ah, ae] fw bH).g12 h2 h3 C V W Z aa ab ac aw aI E
   clear fw jr bH
   have fx := aw.sl jn
   replace ⟨h2, h3, V, W, Z, aa, ab, ac, aI⟩ := (sd ej [cq, cp, bz, ah, ae] bz).g9 h2 h3 V W Z aa ab ac aI
   have lA := aI.sl jp
   replace ⟨h2, h3, V, W, Z, aa, ab, ac, fx⟩ := (sd ej [cq, cp, ah, ae] cp).g9 h2 h3 V W Z aa ab ac fx
   have jt : Own (α := Stp) ej cq 162 (nin (ge w.heap.size) [cq, ah, ae]) 4 4 [(⟨1, d.next, (⟨(pMerge aB.part ar.part).ids, (pMerge aB.part ar.part).blocks⟩ : Prt), ([] : List Int), ([] : List (List Tag))⟩ : Stp), (⟨2, 0, (⟨([] : List Int), ([] : List (List Row))⟩ : Prt), ((([] ++ ((d.list.take ((at_).toNat)).drop 0)) ++ [d.next]) ++ ((d.list.take d.list.length).drop ((at_ + 2).toNat))), d.names⟩ : Stp), (⟨3, aV, (⟨([] : List Int), ([] : List (List Row))⟩ : Prt), ([] : List Int), ([] : List (List Tag))⟩ : Stp), (⟨3, aW, (⟨([] : List Int), ([] : List (List Row))⟩ : Prt), ([] : List Int), ([] : List (List Tag))⟩ : Stp)] := Own.lit jq rfl (by decide) ⟨⟨_, _, _, _, _, _, _, _, _, _, _, _, rfl, ab.oi, ac.oi, (RepS.nil' _ _ none 0 (by decide)), (RepS.nil' _ _ none 0 (by decide))⟩, ⟨_, _, _, _, _, _, _, _, _, _, _, _, rfl, (RepS.nil' _ _ none 0 (by decide)), (RepS.nil' _ _ none 0 (by decide)), fx.oi, lA.oi⟩, ⟨_, _, _, _, _, _, _, _, _, _, _, _, rfl, (RepS.nil' _ _ none 0 (by decide)), (RepS.nil' _ _ none 0 (by decide)), (RepS.nil' _ _ none 0 (by decide)), (RepS.nil' _ _ none 0 (by decide))⟩, ⟨_, _, _, _, _, _, _, _, _, _, _, _, rfl, (RepS.nil' _ _ none 0 (by decide)), (RepS.nil' _ _ none 0 (by decide)), (RepS.nil' _ _ none 0 (by decide)), (RepS.nil' _ _ none 0 (by decide))⟩, rfl⟩
   refine .r 1 <| .d ?_
   have lB := jt.sl js
   replace ⟨h2, h3, V, W, Z, aa⟩ := (sd ej [cq, ah, ae] cq).g6 h2 h3 V W Z aa
   exact .rt Tryz.func95 Tryz.results95 (vS cq 4 4) ⟨(lB.vl (by first | rw [merge_no (.inl (by assumption))] | rw [merge_no (.inr (.inl (by assumption)))] | rw [merge_no (.inr (.inr (by assumption)))] | rw [merge_yes (by assumption) (by assumption) (by assumption) (by assumption) (by assumption) (by assumption) (by assumption)]) (fun _ _ h => h.1)), E⟩
 refine .nw (fun b => .pointer (some ⟨b, 0, none⟩)) 68 [.slice none 0 0, .slice none 0 0] fun pX fy => ?_
 replace ⟨h2, h3, C, V, W, Z, aa, E⟩ := (se [ae] fy).g8 h2 h3 C V W Z aa E
 clear fy
 intro am pY cR fz bk ju
 have nA := nb_new cR C.lt
 have nB := E.cn cR
 replace ⟨h2, h3, C, V, W, Z, aa, E⟩ := (sn [ae] fz cR).g8 h2 h3 C V W Z aa E
 clear fz ju cR
 refine .go 16 <| .cl (fun fA bZ => c_spec_l12Merge aB.part ar.part (V.ta.ext bZ) (W.ta.ext bZ) (Z.ta.ext bZ) (aa.ta.ext bZ) (p4 _ (by assumption)) (p4 _ (by assumption)) (w := fA) (F := all)) ?_
 intro fA bZ
 replace ⟨h2, h3, C, bk, E⟩ := (se [am, ae] bZ).g5 h2 h3 C bk E
 rintro pZ p5 ⟨⟨_, rfl, ⟨ek, p6, em, en, p7, eo, rfl, af, ag⟩⟩, dO⟩
 have dP := al2 bk.lt C.lt
 have fB : Gb w.heap.size fA.heap.size := E.size
 have hkeep_ := dO
 replace ⟨h2, h3, C, bk, E⟩ := (se [am, ae] dO).g5 h2 h3 C bk E
 clear dO
 refine ⟨Ext.chg hkeep_, ?_⟩
 have af := af.fr dP fB
 have nC := af.max
 have ag := ag.fr dP fB
 have nD := ag.max
 clear dP
 have jv := af.len
 subst jv
 have jw := ag.len
 subst jw
 refine .d fun p8 fC => ?_
 replace ⟨h2, h3, C, bk, af, ag, E⟩ := (se [am, ae] fC).g7 h2 h3 C bk af ag E
 clear fC
 refine .sc [.slice ek (((pMerge aB.part ar.part).ids).length) em, .slice en (((pMerge aB.part ar.part).blocks).length) eo] bk fun cz fD O jx => ?_
 replace ⟨h2, h3, C, af, ag, E⟩ := (so [am, ae] fD).g6 h2 h3 C af ag E
 clear fD jx
 refine .d <| .s ?_
 replace h2 := h2.into
 replace h3 := h3.into
 replace af := af.into
 replace ag := ag.into
 have dQ : Gb (ae + 1) cz.heap.size := C.lt
 refine .gd (mtb [] cz.heap.size) 15 fun lC dR => ?_
 replace ⟨h2, h3, C, O, af, ag, E⟩ := (se [am, ae] dR).g7 h2 h3 C O af ag E
 have aq : Chg (mtb [] cz.heap.size) cz lC := Chg.stepN (Chg.refl (mtb [] cz.heap.size) cz) dR
 clear dR
 refine .r [1] <| .lb 2 C (nS_of all_nil dQ) <| .r [3] <| GA.sub (i := 4) (t := 49) (lo := none) (hi := some (vI at_)) (by kernel_rfl) h2 0 ((at_).toNat) (by kernel_rfl) (by kernel_rfl) (.inl ⟨rfl, rfl⟩) (.inr ⟨_, _, rfl, by omega⟩) (by omega) (by omega) fun fE fF al => ?_
 have nE := al.len; have nF := al.max
 refine .r [6] <| .lb 7 C (nS_of all_nil dQ) <| .r [10] <| .lb 11 C (nS_of all_nil dQ) <| .r [12] <| GA.int (i := 13) (at_ + 2) (by kernel_rfl) (by omega) <| GA.sub (i := 14) (t := 49) (lo := some (vI (at_ + 2))) (hi := none) (by kernel_rfl) h2 ((at_ + 2).toNat) d.list.length (by kernel_rfl) (by kernel_rfl) (.inr ⟨_, _, rfl, by omega⟩) (.inl ⟨rfl, rfl⟩) (by omega) (by omega) fun p9 qa aj => ?_
 have nG := aj.len; have nH := aj.max
 refine .tw 0 8 ?_ ?_
 · refine .ns 0 3 [] fun qb fG => ?_
   replace ⟨h3, C, O, af, ag, al, aj, E, aq⟩ := (se [am, ae] fG).g9 h3 C O af ag al aj E aq
   clear fG
   intro bd lD bI fH jy jz
   have fI := nb_new bI C.lt
   have fJ := nb_new bI O.lt
   have fK := gb_new bI E.size
   have fL := E.cn bI
   have cS := aq.cn bI
   replace ⟨h3, C, O, af, ag, al, aj, E, aq⟩ := (sn [am, ae] fH bI).g9 h3 C O af ag al aj E aq
   clear fH jz bI
   have aP : Own (α := Int) lD bd 3 (nin (ge w.heap.size) [bd, am, ae]) 0 0 [] := Own.nil' jy
   refine .tw 5 8 ?_ ?_
   · refine GE.append (T := 49) (ty := 49) (args := [vS bd 0 0, .slice fE ((at_).toNat - 0) fF]) (by kernel_rfl) fun qc fM => ?_
     replace ⟨h3, C, O, af, ag, al, aj, aP, E, aq⟩ := (se [bd, am, ae] fM).g10 h3 C O af ag al aj aP E aq
     clear fM
     obtain ⟨cg, lE, qd, fN, aJ, ba, dS, jA⟩ := Own.appendF (P := Tryz.prog) (T := 49) (ty := 49) flat_int aP (by kernel_rfl) al (fun b h e => h.2 (e ▸ (.head _))) (by omega)
     refine ⟨_, _, fN, Chg.toS dS (Cov.toS cS), ?_⟩
     clear jA
     have jB := nb_or ba fI C.lt
     have jC := nb_or ba fJ O.lt
     have jD := gb_or ba fK E.size
     have jE := cov_or ba fL E.size
     have jF := cov_or ba cS aq.size
     replace ⟨h3, C, O, af, ag, al, aj, E, aq⟩ := (sa [bd, am, ae] dS ba).g9 h3 C O af ag al aj E aq
     clear dS
     replace aJ := aJ.rn bd
     clear ba
     have nI := aJ.len; have nJ := aJ.max
     refine .go 8 <| .ns 1 3 [vI d.next] fun qe fO => ?_
     replace ⟨h3, C, O, af, ag, al, aj, aJ, E, aq⟩ := (se [cg, am, ae] fO).g10 h3 C O af ag al aj aJ E aq
     clear fO
     intro fP qf cr fQ dT jG
     have jH := nb_new cr C.lt
     have jI := nb_new cr O.lt
     have fR := nb_new cr aJ.lt
     have jJ := gb_new cr E.size
     replace ⟨h3, C, O, af, ag, al, aj, aJ, E, aq⟩ := (se [cg, am, ae] fQ).g10 h3 C O af ag al aj aJ E aq
     clear fQ jG cr
     refine .go 9 <| GE.append (T := 49) (ty := 49) (args := [vS cg (0 + ((at_).toNat - 0)) lE, vS fP 1 1]) (by kernel_rfl) fun qg fS => ?_
     replace ⟨h3, C, O, af, ag, al, aj, aJ, dT, E, aq⟩ := (se [cg, am, ae] fS).g11 h3 C O af ag al aj aJ dT E aq
     clear fS
     have eB : nin (ge w.heap.size) [cg, am, ae] fP ∧ fP ≠ cg := hap_mk jJ (all_cons fR (all_cons jI (all_cons jH all_nil))) fR
     obtain ⟨fT, qh, qi, fU, bJ, bt, dU, jK⟩ := aJ.append1 (P := Tryz.prog) (T := 49) (ty := 49) (y := d.next) (by kernel_rfl) dT rfl eB (by omega)
     refine ⟨_, _, fU, Chg.toS dU (Cov.toS jF), ?_⟩
     clear jK
     have jL := nb_or bt jB C.lt
     have jM := nb_or bt jC O.lt
     have jN := gb_or bt jD E.size
     have nK := cov_or bt jE E.size
     replace ⟨h3, C, O, af, ag, al, aj, E, aq⟩ := (sa [cg, am, ae] dU bt).g9 h3 C O af ag al aj E aq
     clear dU
     replace bJ := bJ.rn cg
     clear bt
     have nL := bJ.len; have nM := bJ.max
     refine .d fun qj fV => ?_
     replace ⟨h3, C, O, af, ag, al, aj, bJ, E, aq⟩ := (se [fT, am, ae] fV).g10 h3 C O af ag al aj bJ E aq
     clear fV
     replace h3 := h3.outof
     replace af := af.outof
     replace ag := ag.outof
     replace al := al.outof
     replace aj := aj.outof
     refine RG.appendF (T := 49) (ty := 49) flat_int bJ aj (by kernel_rfl) (by kernel_rfl) (fun b h e => h.2 (e ▸ (.head _))) (by omega) fun bR lF qk ax bS fW => ?_
     have nN := nb_or bS jL C.lt
     have nO := nb_or bS jM O.lt
     have jO := gb_or bS jN E.size
     replace ⟨h3, C, O, af, ag, al, aj, E⟩ := (sa [fT, am, ae] fW bS).g8 h3 C O af ag al aj E
     clear fW
     replace ax := ax.rn fT
     clear bS
     have nP := ax.len; have nQ := ax.max
     refine .r 1 <| .d <| .s <| .gd nil 13 fun ql fX => ?_
     replace ⟨h3, C, O, af, ag, al, aj, ax, E⟩ := (se [bR, am, ae] fX).g9 h3 C O af ag al aj ax E
     clear fX
     refine .r [0] <| .lb 1 C id <| .ln 2 O id <| .r [3, 4, 5] <| .lb 6 C id <| .r [9, 10, 11, 12] <| .go 7 <| .cl (fun fY dV => c_spec_l11Names d.names (h3.ta.ext dV) (by omega) (by intro n hn; have := p1 n hn; omega) (w := fY) (F := all)) ?_
     intro fY dV
     replace ⟨h3, C, O, af, ag, al, aj, ax, E⟩ := (se [bR, am, ae] dV).g9 h3 C O af ag al aj ax E
     rintro qm qn ⟨⟨cA, lG, lH, rfl, aK, b0⟩, dW⟩
     have fZ := al3 ax.lt O.lt C.lt
     have jP : Gb w.heap.size fY.heap.size := E.size
     have hkeep_ := dW
     have nR := nb_ge b0 C.lt
     have nT := nb_ge b0 O.lt
     have nU := nb_ge b0 ax.lt
     have jQ := gb_ge b0 E.size
     replace ⟨h3, C, O, af, ag, al, aj, ax, E⟩ := (sz [bR, am, ae] dW b0).g9 h3 C O af ag al aj ax E
     clear dW b0
     refine ⟨Ext.chg hkeep_, ?_⟩
     replace aK := Own.take (s0 := w.heap.size) (M := [bR, am, ae]) aK fZ jP
     have nV := aK.len; have nW := aK.max
     clear fZ
     refine .r [8] <| .d fun qo f0 => ?_
     replace ⟨h3, C, O, af, ag, al, aj, ax, aK, E⟩ := (se [cA, bR, am, ae] f0).g10 h3 C O af ag al aj ax aK E
     clear f0
     refine .ns 4 162 [vI 1, vI d.next, .slice ek (((pMerge aB.part ar.part).ids).length) em, .slice en (((pMerge aB.part ar.part).blocks).length) eo, .slice none 0 0, .slice none 0 0, vI 2, vI 0, .slice none 0 0, .slice none 0 0, vS bR (0 + ((at_).toNat - 0) + 1 + (d.list.length - (at_ + 2).toNat)) lF, vS cA lG lH, vI 3, vI aV, .slice none 0 0, .slice none 0 0, .slice none 0 0, .slice none 0 0, vI 3, vI aW, .slice none 0 0, .slice none 0 0, .slice none 0 0, .slice none 0 0] fun cu ep bK f3 jR jS => ?_
     have nX := nb_new bK C.lt
     have nY := nb_new bK O.lt
     have nZ := nb_new bK ax.lt
     have n7 := nb_new bK aK.lt
     have jT := gb_new bK E.size
     replace ⟨h3, C, O, af, ag, al, aj, ax, aK, E⟩ := (sn [cA, bR, am, ae] f3 bK).g10 h3 C O af ag al aj ax aK E
     clear f3 jS bK
     have f4 := ax.sl jO
     replace ⟨h3, af, ag, al, aj, aK⟩ := (sd ep [cu, cA, bR, am, ae] bR).g6 h3 af ag al aj aK
     have lI := aK.sl jQ
     replace ⟨h3, af, ag, al, aj, f4⟩ := (sd ep [cu, cA, am, ae] cA).g6 h3 af ag al aj f4
     have jU : Own (α := Stp) ep cu 162 (nin (ge w.heap.size) [cu, am, ae]) 4 4 [(⟨1, d.next, (⟨(pMerge aB.part ar.part).ids, (pMerge aB.part ar.part).blocks⟩ : Prt), ([] : List Int), ([] : List (List Tag))⟩ : Stp), (⟨2, 0, (⟨([] : List Int), ([] : List (List Row))⟩ : Prt), ((([] ++ ((d.list.take ((at_).toNat)).drop 0)) ++ [d.next]) ++ ((d.list.take d.list.length).drop ((at_ + 2).toNat))), d.names⟩ : Stp), (⟨3, aV, (⟨([] : List Int), ([] : List (List Row))⟩ : Prt), ([] : List Int), ([] : List (List Tag))⟩ : Stp), (⟨3, aW, (⟨([] : List Int), ([] : List (List Row))⟩ : Prt), ([] : List Int), ([] : List (List Tag))⟩ : Stp)] := Own.lit jR rfl (by decide) ⟨⟨_, _, _, _, _, _, _, _, _, _, _, _, rfl, af.oi, ag.oi, (RepS.nil' _ _ none 0 (by decide)), (RepS.nil' _ _ none 0 (by decide))⟩, ⟨_, _, _, _, _, _, _, _, _, _, _, _, rfl, (RepS.nil' _ _ none 0 (by decide)), (RepS.nil' _ _ none 0 (by decide)), f4.oi, lI.oi⟩, ⟨_, _, _, _, _, _, _, _, _, _, _, _, rfl, (RepS.nil' _ _ none 0 (by decide)), (RepS.nil' _ _ none 0 (by decide)), (RepS.nil' _ _ none 0 (by decide)), (RepS.nil' _ _ none 0 (by decide))⟩, ⟨_, _, _, _, _, _, _, _, _, _, _, _, rfl, (RepS.nil' _ _ none 0 (by decide)), (RepS.nil' _ _ none 0 (by decide)), (RepS.nil' _ _ none 0 (by decide)), (RepS.nil' _ _ none 0 (by decide))⟩, rfl⟩
     refine .r 1 <| .d ?_
     have lJ := jU.sl jT
     replace ⟨h3, af, ag, al, aj⟩ := (sd ep [cu, am, ae] cu).g5 h3 af ag al aj
     exact .rt Tryz.func95 Tryz.results95 (vS cu 4 4) ⟨(lJ.vl (by first | rw [merge_no (.inl (by assumption))] | rw [merge_no (.inr (.inl (by assumption)))] | rw [merge_no (.inr (.inr (by assumption)))] | rw [merge_yes (by assumption) (by assumption) (by assumption) (by assumption) (by assumption) (by assumption) (by assumption)]) (fun _ _ h => h.1)), E⟩
   refine .ns 1 3 [vI d.next] fun qp f5 => ?_
   replace ⟨h3, C, O, af, ag, al, aj, aP, E, aq⟩ := (se [bd, am, ae] f5).g10 h3 C O af ag al aj aP E aq
   clear f5
   intro f6 qq cv f7 bm jV
   have jW := nb_new cv C.lt
   have jX := nb_new cv O.lt
   have jY := nb_new cv aP.lt
   have jZ := gb_new cv E.size
   replace ⟨h3, C, O, af, ag, al, aj, aP, E, aq⟩ := (se [bd, am, ae] f7).g10 h3 C O af ag al aj aP E aq
   clear f7 jV cv
   refine .go 5 <| GE.append (T := 49) (ty := 49) (args := [vS bd 0 0, .slice fE ((at_).toNat - 0) fF]) (by kernel_rfl) fun qr f8 => ?_
   replace ⟨h3, C, O, af, ag, al, aj, aP, bm, E, aq⟩ := (se [bd, am, ae] f8).g11 h3 C O af ag al aj aP bm E aq
   clear f8
   obtain ⟨cB, lK, qs, f9, bL, aT, dX, j0⟩ := Own.appendF (P := Tryz.prog) (T := 49) (ty := 49) flat_int aP (by kernel_rfl) al (fun b h e => h.2 (e ▸ (.head _))) (by omega)
   refine ⟨_, _, f9, Chg.toS dX (Cov.toS cS), ?_⟩
   clear j0
   have j1 := nb_or aT fI C.lt
   have j2 := nb_or aT fJ O.lt
   have ga := nb_or aT (Nb.symm jY) bm.lt
   have j3 := gb_or aT fK E.size
   have j4 := cov_or aT fL E.size
   have j5 := cov_or aT cS aq.size
   replace ⟨h3, C, O, af, ag, al, aj, bm, E, aq⟩ := (sa [bd, am, ae] dX aT).g10 h3 C O af ag al aj bm E aq
   clear dX
   replace bL := bL.rn bd
   clear aT
   have n8 := bL.len; have n9 := bL.max
   refine .go 9 <| GE.append (T := 49) (ty := 49) (args := [vS cB (0 + ((at_).toNat - 0)) lK, vS f6 1 1]) (by kernel_rfl) fun qt gb => ?_
   replace ⟨h3, C, O, af, ag, al, aj, bL, bm, E, aq⟩ := (se [cB, am, ae] gb).g11 h3 C O af ag al aj bL bm E aq
   clear gb
   have eC : nin (ge w.heap.size) [cB, am, ae] f6 ∧ f6 ≠ cB := hap_mk jZ (all_cons (Nb.symm ga) (all_cons jX (all_cons jW all_nil))) (Nb.symm ga)
   obtain ⟨gf, qu, qv, gg, bM, bu, dY, j6⟩ := bL.append1 (P := Tryz.prog) (T := 49) (ty := 49) (y := d.next) (by kernel_rfl) bm rfl eC (by omega)
   refine ⟨_, _, gg, Chg.toS dY (Cov.toS j5), ?_⟩
   clear j6
   have j7 := nb_or bu j1 C.lt
   have j8 := nb_or bu j2 O.lt
   have j9 := gb_or bu j3 E.size
   have oa := cov_or bu j4 E.size
   replace ⟨h3, C, O, af, ag, al, aj, E, aq⟩ := (sa [cB, am, ae] dY bu).g9 h3 C O af ag al aj E aq
   clear dY
   replace bM := bM.rn cB
   clear bu
   have oc := bM.len; have od := bM.max
   refine .d fun qw gh => ?_
   replace ⟨h3, C, O, af, ag, al, aj, bM, E, aq⟩ := (se [gf, am, ae] gh).g10 h3 C O af ag al aj bM E aq
   clear gh
   replace h3 := h3.outof
   replace af := af.outof
   replace ag := ag.outof
   replace al := al.outof
   replace aj := aj.outof
   refine RG.appendF (T := 49) (ty := 49) flat_int bM aj (by kernel_rfl) (by kernel_rfl) (fun b h e => h.2 (e ▸ (.head _))) (by omega) fun bT lL qx ay bU gi => ?_
   have oe := nb_or bU j7 C.lt
   have og := nb_or bU j8 O.lt
   have ka := gb_or bU j9 E.size
   replace ⟨h3, C, O, af, ag, al, aj, E⟩ := (sa [gf, am, ae] gi bU).g8 h3 C O af ag al aj E
   clear gi
   replace ay := ay.rn gf
   clear bU
   have oh := ay.len; have ol := ay.max
   refine .r 1 <| .d <| .s <| .gd nil 13 fun qy gj => ?_
   replace ⟨h3, C, O, af, ag, al, aj, ay, E⟩ := (se [bT, am, ae] gj).g9 h3 C O af ag al aj ay E
   clear gj
   refine .r [0] <| .lb 1 C id <| .ln 2 O id <| .r [3, 4, 5] <| .lb 6 C id <| .r [9, 10, 11, 12] <| .go 7 <| .cl (fun gk dZ => c_spec_l11Names d.names (h3.ta.ext dZ) (by omega) (by intro n hn; have := p1 n hn; omega) (w := gk) (F := all)) ?_
   intro gk dZ
   replace ⟨h3, C, O, af, ag, al, aj, ay, E⟩ := (se [bT, am, ae] dZ).g9 h3 C O af ag al aj ay E
   rintro qz qA ⟨⟨cC, lM, lN, rfl, aL, b6⟩, d0⟩
   have gl := al3 ay.lt O.lt C.lt
   have kb : Gb w.heap.size gk.heap.size := E.size
   have hkeep_ := d0
   have om := nb_ge b6 C.lt
   have oo := nb_ge b6 O.lt
   have oq := nb_ge b6 ay.lt
   have kc := gb_ge b6 E.size
   replace ⟨h3, C, O, af, ag, al, aj, ay, E⟩ := (sz [bT, am, ae] d0 b6).g9 h3 C O af ag al aj ay E
   clear d0 b6
   refine ⟨Ext.chg hkeep_, ?_⟩
   replace aL := Own.take (s0 := w.heap.size) (M := [bT, am, ae]) aL gl kb
   have ou := aL.len; have ov := aL.max
   clear gl
   refine .r [8] <| .d fun qB gm => ?_
   replace ⟨h3, C, O, af, ag, al, aj, ay, aL, E⟩ := (se [cC, bT, am, ae] gm).g10 h3 C O af ag al aj ay aL E
   clear gm
   refine .ns 4 162 [vI 1, vI d.next, .slice ek (((pMerge aB.part ar.part).ids).length) em, .slice en (((pMerge aB.part ar.part).blocks).length) eo, .slice none 0 0, .slice none 0 0, vI 2, vI 0, .slice none 0 0, .slice none 0 0, vS bT (0 + ((at_).toNat - 0) + 1 + (d.list.length - (at_ + 2).toNat)) lL, vS cC lM lN, vI 3, vI aV, .slice none 0 0, .slice none 0 0, .slice none 0 0, .slice none 0 0, vI 3, vI aW, .slice none 0 0, .slice none 0 0, .slice none 0 0, .slice none 0 0] fun cw es bN gn kd ke => ?_
   have ow := nb_new bN C.lt
   have ox := nb_new bN O.lt
   have oy := nb_new bN ay.lt
   have oz := nb_new bN aL.lt
   have kf := gb_new bN E.size
   replace ⟨h3, C, O, af, ag, al, aj, ay, aL, E⟩ := (sn [cC, bT, am, ae] gn bN).g10 h3 C O af ag al aj ay aL E
   clear gn ke bN
   have gp := ay.sl ka
   replace ⟨h3, af, ag, al, aj, aL⟩ := (sd es [cw, cC, bT, am, ae] bT).g6 h3 af ag al aj aL
   have lO := aL.sl kc
   replace ⟨h3, af, ag, al, aj, gp⟩ := (sd es [cw, cC, am, ae] cC).g6 h3 af ag al aj gp
   have kg : Own (α := Stp) es cw 162 (nin (ge w.heap.size) [cw, am, ae]) 4 4 [(⟨1, d.next, (⟨(pMerge aB.part ar.part).ids, (pMerge aB.part ar.part).blocks⟩ : Prt), ([] : List Int), ([] : List (List Tag))⟩ : Stp), (⟨2, 0, (⟨([] : List Int), ([] : List (List Row))⟩ : Prt), ((([] ++ ((d.list.take ((at_).toNat)).drop 0)) ++ [d.next]) ++ ((d.list.take d.list.length).drop ((at_ + 2).toNat))), d.names⟩ : Stp), (⟨3, aV, (⟨([] : List Int), ([] : List (List Row))⟩ : Prt), ([] : List Int), ([] : List (List Tag))⟩ : Stp), (⟨3, aW, (⟨([] : List Int), ([] : List (List Row))⟩ : Prt), ([] : List Int), ([] : List (List Tag))⟩ : Stp)] := Own.lit kd rfl (by decide) ⟨⟨_, _, _, _, _, _, _, _, _, _, _, _, rfl, af.oi, ag.oi, (RepS.nil' _ _ none 0 (by decide)), (RepS.nil' _ _ none 0 (by decide))⟩, ⟨_, _, _, _, _, _, _, _, _, _, _, _, rfl, (RepS.nil' _ _ none 0 (by decide)), (RepS.nil' _ _ none 0 (by decide)), gp.oi, lO.oi⟩, ⟨_, _, _, _, _, _, _, _, _, _, _, _, rfl, (RepS.nil' _ _ none 0 (by decide)), (RepS.nil' _ _ none 0 (by decide)), (RepS.nil' _ _ none 0 (by decide)), (RepS.nil' _ _ none 0 (by decide))⟩, ⟨_, _, _, _, _, _, _, _, _, _, _, _, rfl, (RepS.nil' _ _ none 0 (by decide)), (RepS.nil' _ _ none 0 (by decide)), (RepS.nil' _ _ none 0 (by decide)), (RepS.nil' _ _ none 0 (by decide))⟩, rfl⟩
   refine .r 1 <| .d ?_
   have lP := kg.sl kf
   replace ⟨h3, af, ag, al, aj⟩ := (sd es [cw, am, ae] cw).g5 h3 af ag al aj
   exact .rt Tryz.func95 Tryz.results95 (vS cw 4 4) ⟨(lP.vl (by first | rw [merge_no (.inl (by assumption))] | rw [merge_no (.inr (.inl (by assumption)))] | rw [merge_no (.inr (.inr (by assumption)))] | rw [merge_yes (by assumption) (by assumption) (by assumption) (by assumption) (by assumption) (by assumption) (by assumption)]) (fun _ _ h => h.1)), E⟩
 refine .ns 1 3 [vI d.next] fun qC gq => ?_
 replace ⟨h3, C, O, af, ag, al, aj, E, aq⟩ := (se [am, ae] gq).g9 h3 C O af ag al aj E aq
 clear gq
 intro gr qD cT gs aE kh
 have ki := nb_new cT C.lt
 have kj := nb_new cT O.lt
 have kk := gb_new cT E.size
 replace ⟨h3, C, O, af, ag, al, aj, E, aq⟩ := (se [am, ae] gs).g9 h3 C O af ag al aj E aq
 clear gs kh cT
 refine .go 0 <| .ns 0 3 [] fun qE gt => ?_
 replace ⟨h3, C, O, af, ag, al, aj, aE, E, aq⟩ := (se [am, ae] gt).g10 h3 C O af ag al aj aE E aq
 clear gt
 intro cD lQ bn gu kl km
 have ko := nb_new bn C.lt
 have kp := nb_new bn O.lt
 have kq := nb_new bn aE.lt
 have kr := gb_new bn E.size
 have ks := E.cn bn
 have gv := aq.cn bn
 replace ⟨h3, C, O, af, ag, al, aj, aE, E, aq⟩ := (sn [am, ae] gu bn).g10 h3 C O af ag al aj aE E aq
 clear gu km bn
 have d3 : Own (α := Int) lQ cD 3 (nin (ge w.heap.size) [cD, am, ae]) 0 0 [] := Own.nil' kl
 refine .go 5 <| GE.append (T := 49) (ty := 49) (args := [vS cD 0 0, .slice fE ((at_).toNat - 0) fF]) (by kernel_rfl) fun qF gw => ?_
 replace ⟨h3, C, O, af, ag, al, aj, aE, d3, E, aq⟩ := (se [cD, am, ae] gw).g11 h3 C O af ag al aj aE d3 E aq
 clear gw
 obtain ⟨cE, lR, qG, gx, bO, aU, d4, kt⟩ := Own.appendF (P := Tryz.prog) (T := 49) (ty := 49) flat_int d3 (by kernel_rfl) al (fun b h e => h.2 (e ▸ (.head _))) (by omega)
 refine ⟨_, _, gx, Chg.toS d4 (Cov.toS gv), ?_⟩
 clear kt
 have ku := nb_or aU ko C.lt
 have kv := nb_or aU kp O.lt
 have gy := nb_or aU kq aE.lt
 have kw := gb_or aU kr E.size
 have kx := cov_or aU ks E.size
 have ky := cov_or aU gv aq.size
 replace ⟨h3, C, O, af, ag, aj, aE, E⟩ := (sa [cD, am, ae] d4 aU).g8 h3 C O af ag aj aE E
 clear d4
 replace bO := bO.rn cD
 clear aU
 have oA := bO.len; have oB := bO.max
 refine .go 9 <| GE.append (T := 49) (ty := 49) (args := [vS cE (0 + ((at_).toNat - 0)) lR, vS gr 1 1]) (by kernel_rfl) fun qH gz => ?_
 replace ⟨h3, C, O, af, ag, aj, aE, bO, E⟩ := (se [cE, am, ae] gz).g9 h3 C O af ag aj aE bO E
 clear gz
 have eD : nin (ge w.heap.size) [cE, am, ae] gr ∧ gr ≠ cE := hap_mk kk (all_cons (Nb.symm gy) (all_cons kj (all_cons ki all_nil))) (Nb.symm gy)
 obtain ⟨gA, qI, qJ, gC, bP, bv, d5, kz⟩ := bO.append1 (P := Tryz.prog) (T := 49) (ty := 49) (y := d.next) (by kernel_rfl) aE rfl eD (by omega)
 refine ⟨_, _, gC, Chg.toS d5 (Cov.toS ky), ?_⟩
 clear kz
 have kA := nb_or bv ku C.lt
 have kB := nb_or bv kv O.lt
 have kC := gb_or bv kw E.size
 have oC := cov_or bv kx E.size
 replace ⟨h3, C, O, af, ag, aj, E⟩ := (sa [cE, am, ae] d5 bv).g7 h3 C O af ag aj E
 clear d5
 replace bP := bP.rn cE
 clear bv
 have oD := bP.len; have oE := bP.max
 refine .d fun qK gD => ?_
 replace ⟨h3, C, O, af, ag, aj, bP, E⟩ := (se [gA, am, ae] gD).g8 h3 C O af ag aj bP E
 clear gD
 replace h3 := h3.outof
 replace af := af.outof
 replace ag := ag.outof
 replace aj := aj.outof
 refine RG.appendF (T := 49) (ty := 49) flat_int bP aj (by kernel_rfl) (by kernel_rfl) (fun b h e => h.2 (e ▸ (.head _))) (by omega) fun bV lS qL az bW gE => ?_
 have oF := nb_or bW kA C.lt
 have oG := nb_or bW kB O.lt
 have kD := gb_or bW kC E.size
 replace ⟨h3, C, O, af, ag, E⟩ := (sa [gA, am, ae] gE bW).g6 h3 C O af ag E
 clear gE
 replace az := az.rn gA
 clear bW
 have oH := az.len; have oI := az.max
 refine .r 1 <| .d <| .s <| .gd nil 13 fun qM gF => ?_
 replace ⟨h3, C, O, af, ag, az, E⟩ := (se [bV, am, ae] gF).g7 h3 C O af ag az E
 clear gF
 refine .r [0] <| .lb 1 C id <| .ln 2 O id <| .r [3, 4, 5] <| .lb 6 C id <| .r [9, 10, 11, 12] <| .go 7 <| .cl (fun d6 cU => c_spec_l11Names d.names (h3.ta.ext cU) (by omega) (by intro n hn; have := p1 n hn; omega) (w := d6) (F := all)) ?_
 intro d6 cU
 replace ⟨C, O, af, ag, az, E⟩ := (se [bV, am, ae] cU).g6 C O af ag az E
 rintro oJ oK ⟨⟨b7, kE, kF, rfl, aA, bw⟩, cV⟩
 have et := al3 az.lt O.lt C.lt
 have gG : Gb w.heap.size d6.heap.size := E.size
 have hkeep_ := cV
 have lW := nb_ge bw C.lt
 have lX := nb_ge bw O.lt
 have lY := nb_ge bw az.lt
 have gH := gb_ge bw E.size
 replace ⟨C, O, af, ag, az, E⟩ := (sz [bV, am, ae] cV bw).g6 C O af ag az E
 clear cV bw
 refine ⟨Ext.chg hkeep_, ?_⟩
 replace aA := Own.take (s0 := w.heap.size) (M := [bV, am, ae]) aA et gG
 have lZ := aA.len; have l0 := aA.max
 clear et
 refine .r [8] <| .d fun oL ew => ?_
 replace ⟨C, O, af, ag, az, aA, E⟩ := (se [b7, bV, am, ae] ew).g7 C O af ag az aA E
 clear ew
 refine .ns 4 162 [vI 1, vI d.next, .slice ek (((pMerge aB.part ar.part).ids).length) em, .slice en (((pMerge aB.part ar.part).blocks).length) eo, .slice none 0 0, .slice none 0 0, vI 2, vI 0, .slice none 0 0, .slice none 0 0, vS bV (0 + ((at_).toNat - 0) + 1 + (d.list.length - (at_ + 2).toNat)) lS, vS b7 kE kF, vI 3, vI aV, .slice none 0 0, .slice none 0 0, .slice none 0 0, .slice none 0 0, vI 3, vI aW, .slice none 0 0, .slice none 0 0, .slice none 0 0, .slice none 0 0] fun cx d7 bb ex gI gJ => ?_
 have l3 := nb_new bb C.lt
 have l4 := nb_new bb O.lt
 have l5 := nb_new bb az.lt
 have l6 := nb_new bb aA.lt
 have gK := gb_new bb E.size
 replace ⟨af, ag, az, aA, E⟩ := (sn [b7, bV, am, ae] ex bb).g5 af ag az aA E
 clear ex gJ bb
 have d8 := az.sl kD
 replace ⟨af, ag, aA⟩ := (sd d7 [cx, b7, bV, am, ae] bV).g3 af ag aA
 have kG := aA.sl gH
 replace ⟨af, ag, d8⟩ := (sd d7 [cx, b7, am, ae] b7).g3 af ag d8
 have gL : Own (α := Stp) d7 cx 162 (nin (ge w.heap.size) [cx, am, ae]) 4 4 [(⟨1, d.next, (⟨(pMerge aB.part ar.part).ids, (pMerge aB.part ar.part).blocks⟩ : Prt), ([] : List Int), ([] : List (List Tag))⟩ : Stp), (⟨2, 0, (⟨([] : List Int), ([] : List (List Row))⟩ : Prt), ((([] ++ ((d.list.take ((at_).toNat)).drop 0)) ++ [d.next]) ++ ((d.list.take d.list.length).drop ((at_ + 2).toNat))), d.names⟩ : Stp), (⟨3, aV, (⟨([] : List Int), ([] : List (List Row))⟩ : Prt), ([] : List Int), ([] : List (List Tag))⟩ : Stp), (⟨3, aW, (⟨([] : List Int), ([] : List (List Row))⟩ : Prt), ([] : List Int), ([] : List (List Tag))⟩ : Stp)] := Own.lit gI rfl (by decide) ⟨⟨_, _, _, _, _, _, _, _, _, _, _, _, rfl, af.oi, ag.oi, (RepS.nil' _ _ none 0 (by decide)), (RepS.nil' _ _ none 0 (by decide))⟩, ⟨_, _, _, _, _, _, _, _, _, _, _, _, rfl, (RepS.nil' _ _ none 0 (by decide)), (RepS.nil' _ _ none 0 (by decide)), d8.oi, kG.oi⟩, ⟨_, _, _, _, _, _, _, _, _, _, _, _, rfl, (RepS.nil' _ _ none 0 (by decide)), (RepS.nil' _ _ none 0 (by decide)), (RepS.nil' _ _ none 0 (by decide)), (RepS.nil' _ _ none 0 (by decide))⟩, ⟨_, _, _, _, _, _, _, _, _, _, _, _, rfl, (RepS.nil' _ _ none 0 (by decide)), (RepS.nil' _ _ none 0 (by decide)), (RepS.nil' _ _ none 0 (by decide)), (RepS.nil' _ _ none 0 (by decide))⟩, rfl⟩
 refine .r 1 <| .d ?_
 have kH := gL.sl gK
 exact .rt Tryz.func95 Tryz.results95 (vS cx 4 4) ⟨(kH.vl (by first | rw [merge_no (.inl (by assumption))] | rw [merge_no (.inr (.inl (by assumption)))] | rw [merge_no (.inr (.inr (by assumption)))] | rw [merge_yes (by assumption) (by assumption) (by assumption) (by assumption) (by assumption) (by assumption) (by assumption)]) (fun _ _ h => h.1)), E⟩
end Go.Proofs.YtndljnhfkdhggaaGreat