/- walks; squeezed -/
import Derived.Test.YtfnpaglcnmcnbaaGreatFluzMod21
set_option linter.unusedVariables false
set_option linter.unusedSimpArgs false
namespace Go.Proofs.YtfnpaglcnmcnbaaGreat
set_option maxRecDepth 100000
set_option maxHeartbeats 4000000
theorem c_impl_indexOf (names : List (List Tag)) {w : World} {F : Nat → Prop} {a1 : Option Addr} {n1 c1 : Nat} (h1 : RepS w F a1 n1 c1 names) (p0 : NmI names) (p1 : NsD names) : Calls Tryz.prog 73 [.slice a1 n1 c1].toArray w (rets fun rv w' => VS (ge w.heap.size) w' (idxOf names : Idx) rv ∧ Ext w w') := by
 refine goT Tryz.func73 ?_
 obtain ⟨rfl, dq, h1⟩ := h1.tp
 refine .s <| .g <| .np 26 [.slice none 0 0, .slice none 0 0] fun O cC bm bn av cD => ?_
 have cE := gb_new bm (Nat.le_refl _)
 replace h1 := (sn [] bn bm).g1 h1
 have ag := bn
 clear bn cD bm
 refine .d <| .s <| .g <| .r 1 <| .cl (c_impl_cloneNames names h1.ta (by have := p0.len; omega) (fun n hn => by have := (nameOk_sz (p0.ok n hn)).1; omega) (w := cC) (F := all)) ?_
 rintro dO W ⟨⟨bk, bI, bJ, rfl, aw, bd⟩, bO⟩
 have bP := al1 av.lt
 have cF : Gb w.heap.size cC.heap.size := ag.size
 have dr := nb_ge bd av.lt
 have cG := gb_ge bd ag.size
 replace ⟨h1, av, ag⟩ := (sz [O] bO bd).g3 h1 av ag
 clear bO bd
 replace aw := Own.take (s0 := w.heap.size) (M := [O]) aw bP cF
 have dt := aw.len; have du := aw.max
 clear bP
 have ak := aw.sl cG
 replace h1 := (sd W [bk, O] bk).g1 h1
 have bW : w.heap.size ≤ W.heap.size := ag.size
 replace ak : RepS W (nin (GN w.heap.size W.heap.size O) [O]) _ _ _ _ := ak.toGN.weak (fun b _ h => ⟨h, by simp; exact h.2.2⟩)
 have h1c := h1.toLow; have hEc := ag; have hb2c := av
 refine .ns 0 130 [] fun aB di bo bq cH cI => ?_
 have cJ : Cov nil W aB := cov_new bo (Nat.le_refl _)
 replace ak := (sn [O] bq bo).g1 ak
 have ah := bq
 clear bq cI bo
 have ai : Own (α := Pst) di aB 130 (nin (ge w.heap.size) [aB, O]) 0 0 [] := Own.nil' cH
 refine .r 1 <| .np 26 [.slice none 0 0, .slice none 0 0] fun V dP bg bQ cK cL => ?_
 have cM := nb_new bg ai.lt
 have cN := ah.cn bg
 replace ⟨ak, ai, ah⟩ := (sn [aB, O] bQ bg).g3 ak ai ah
 clear bQ cL bg
 refine .sc [vS bk bI bJ, vS aB 0 0] cK fun dQ bR cO cP => ?_
 replace ⟨ak, ai, ah⟩ := (so [V, aB, O] bR).g3 ak ai ah
 clear bR cP
 refine .d <| .s <| .s <| .g <| .r 3 <| .d <| .b 0 ?_
 have hix := IX.new0 (tX := 26) (tP := 130) (tI := 3) (s0 := w.heap.size) (s1 := W.heap.size) bW (GN.lt (b2 := O)) ak.w1 cO ai cM (Cov.ge cN) (Cov.ge cJ)
 have hE := ah
 refine T.loop (X := Nat × Nat × Nat × List RP × List Pst × List Nat) (aB, 0, 0, [], [], []) (fun (r, c, k, ys, xs, rs) => [(2, .pointer (some ⟨O, 0, none⟩)), (3, .pointer (some ⟨V, 0, none⟩)), (13, .slice a1 names.length c1), (14, vI (names.length : Int)), (15, vI (k : Int))]) (fun (r, c, k, ys, xs, rs) w_ => Ext W w_ ∧ IX 26 130 3 w.heap.size W.heap.size (GN w.heap.size W.heap.size O) w_ V r c (some ⟨bk, 0, none⟩) bI bJ names ys xs rs ∧ k ≤ names.length ∧ xs.length ≤ 3 * k ∧ (∀ x ∈ xs, x.ids.length ≤ 3 * k) ∧ bldF k xs (names.drop k) = bldF 0 [] names) (fun (r, c, k, ys, xs, rs) => names.length - k) (by kernel_rfl) ⟨by kernel_rfl, by kernel_rfl, by kernel_rfl, by kernel_rfl, by kernel_rfl, trivial⟩ ⟨hE, hix, by omega, by simp, by simp, rfl⟩ ?_
 clear hix hE
 rintro ⟨r, c, k, ys, xs, rs⟩ e1_ dR ⟨hE, hix, hk, hxl, hil, hbl⟩ bK
 have hnm := h1c.ext hE
 refine .s <| .g <| .bp ((k : Int) < (names.length : Int)) (fun cQ => ?_) (fun cQ => ?_)
 · refine .d <| .s <| .ct <| .sk <| .s <| .b 1 <| .s <| .g <| .r 1 ?_
   have cR : k < names.length := (by omega)
   refine .ix k 1 hnm cR ?_
   obtain ⟨ae, ax⟩ : ∃ y, names[k]? = some y := ⟨_, List.getElem?_eq_getElem (by omega)⟩
   have dv := drop_at ax; have dg := List.mem_of_getElem? ax
   obtain ⟨_, ⟨dj, dS, dk, rfl, bX⟩, cS⟩ := hnm.elem k ae ax
   have cT := bX.len
   subst cT
   have dw := bX.max
   refine .lh 0 cS <| .r 2 <| .d <| .s <| .g <| .r 3 <| .d <| .b 2 ?_
   have hEA := hE; have dT := (nameOk_sz (p0.ok ae (List.mem_of_getElem? ax))).1; have hnl := p0.len
   refine T.loop (X := Nat × Nat × Nat × List RP × List Pst × List Nat) (r, c, 0, ys, xs, rs) (fun (rq, cq, j, J, E, aa) => [(2, .pointer (some ⟨O, 0, none⟩)), (3, .pointer (some ⟨V, 0, none⟩)), (4, vI (k : Int)), (13, .slice a1 names.length c1), (14, vI (names.length : Int)), (15, vI (k : Int)), (20, .slice dj ae.length dk), (21, vI (ae.length : Int)), (22, vI (j : Int))]) (fun (rq, cq, j, J, E, aa) w_ => Ext W w_ ∧ IX 26 130 3 w.heap.size W.heap.size (GN w.heap.size W.heap.size O) w_ V rq cq (some ⟨bk, 0, none⟩) bI bJ names J E aa ∧ j ≤ ae.length ∧ E.length ≤ 3 * k + j ∧ (∀ x ∈ E, x.ids.length ≤ 3 * k + j) ∧ (ae.drop j).foldl (addT ((k : Int) + 1)) E = ae.foldl (addT ((k : Int) + 1)) xs) (fun (rq, cq, j, J, E, aa) => ae.length - j) (by kernel_rfl) ⟨by kernel_rfl, by kernel_rfl, by kernel_rfl, by kernel_rfl, by kernel_rfl, by kernel_rfl, by kernel_rfl, by kernel_rfl, by kernel_rfl, trivial⟩ ⟨hE, hix, by omega, by omega, fun x hx => by have := hil x hx; omega, rfl⟩ ?_
   clear hix hE
   rintro ⟨rq, cq, j, J, E, aa⟩ e2_ dU ⟨hE, hix, hj, bS, af, hfl⟩ bh
   have cU := bX.via hEA hE
   refine .s <| .g <| .bp ((j : Int) < (ae.length : Int)) (fun cV => ?_) (fun cV => .d <| .s <| .cf <| .x 2 rfl <| .ib 1 <| .g <| .it ((k : Int) + 1) <| .r 1 <| .d <| bK (rq, cq, k + 1, J, E, aa) _ _ ⟨by kernel_rfl, by kernel_rfl, by kernel_rfl, by kernel_rfl, by kernel_rfl, trivial⟩ ⟨hE, hix, by omega, by omega, fun x hx => by have := af x hx; omega, bldStep hbl (drop_at ax) (foldEnd hfl (by omega))⟩ (by first | omega | (simp only []; omega)))
   refine .d <| .s <| .ct <| .sk <| .s <| .b 3 <| .s <| .g ?_
   have cW : j < ae.length := (by omega)
   refine .ix j 2 cU cW ?_
   obtain ⟨C, ay⟩ : ∃ y, ae[j]? = some y := ⟨_, List.getElem?_eq_getElem (by omega)⟩
   have dx := drop_at ay; have dh := List.mem_of_getElem? ay
   obtain ⟨_, rfl, cX⟩ := cU.elem j C ay
   refine .lg 0 cX <| .np 112 [.string (bs []), .string (bs [])] fun cY dV br bt cZ bY => ?_
   have bZ : ∀ q_ ∈ V :: rq :: aa, Nb cY q_ := fun q_ hq_ => nb_new br (hix.lt q_ hq_)
   have bu : W.heap.size ≤ cY := Nat.le_trans hE.size (Nat.le_of_eq (Eq.symm br))
   replace hix := hix.ext bt
   replace hE := hE.trans bt
   clear bt bY br
   refine .sc [vT C.key, vT C.val] cZ fun c7 aC al b0 => ?_
   replace hix := hix.one aC bZ bu
   replace hE := Chg.stepO hE aC ⟨.inr bu⟩
   clear aC b0
   refine .d <| .s <| .g <| .r 1 <| .lb hix.box <| .r 1 <| .cl (c_IndexFunc_posts E C (hix.rep.weak (F' := all) (fun _ _ _ => trivial)) al (w := c7) (F := all)) ?_
   rintro dy bv ⟨rfl, am⟩
   replace al := al.ext am
   replace hix := hix.ext am
   replace hE := hE.trans am
   clear am
   refine .r 1 <| .d <| .s <| .s <| .g <| .r 1 <| .bp (idxP C 0 E < 0) (fun b6 => ?_) (fun b6 => ?_)
   · refine .d <| .ct <| .s <| .g <| .r 1 <| .lb hix.box <| .r 2 <| .d <| .g <| .r 1 <| .lb hix.box <| .ln al <| .r 1 <| .ns 1 130 [vT C.key, vT C.val, .slice none 0 0] fun aj dz aD aE bw b7 => ?_
     have bz : ∀ q_ ∈ V :: rq :: aa, Nb aj q_ := fun q_ hq_ => nb_new aD (hix.lt q_ hq_)
     have b8 : W.heap.size ≤ aj := Nat.le_trans hE.size (Nat.le_of_eq (Eq.symm aD))
     replace hix := hix.ext aE
     replace hE := hE.trans aE
     clear aE b7 aD
     have bT := hix.lx; have c8 := hix.lr; have hvl_ := bw.lt; have hge_r := hix.new rq (.tail _ (.head _)); have b9 := hix.new V (.head _); have hEs := hE.size
     refine RG.append1 (T := 24) (ty := 24) (y := (⟨C.key, C.val, none, 0, 0⟩ : RP)) hix.own bw (by kernel_rfl) (by kernel_rfl) rfl ⟨trivial, bz rq (.tail _ (.head _))⟩ (by omega) fun Z bU dA cd bL aF => ?_
     replace hE := Chg.stepO hE aF ⟨.inr hge_r⟩
     refine .r 1 <| .ss 1 (vS Z (J.length + 1) bU) (hix.box.chg aF (Nb.one hix.ne)) fun bA aG ce cg => ?_
     replace hix := hix.push (t := ⟨C.key, C.val⟩) (vb := aj) hEs aF cd bL bz b8 hvl_ aG ce
     replace hE := Chg.stepO hE aG ⟨.inr b9⟩
     clear aG cg
     refine .d ?_
     obtain ⟨xi, hxi⟩ : ∃ q, (E ++ [(⟨⟨C.key, C.val⟩, []⟩ : Pst)])[J.length]? = some q := ⟨_, List.getElem?_eq_getElem (by first | (simp; done) | (simp; omega))⟩
     obtain ⟨yi, hyi⟩ : ∃ q, (J ++ [(⟨C.key, C.val, none, 0, 0⟩ : RP)])[J.length]? = some q := ⟨_, List.getElem?_eq_getElem (by first | (simp; done) | (simp; omega))⟩
     obtain ⟨ri, hri⟩ : ∃ q, (aa ++ [aj])[J.length]? = some q := ⟨_, List.getElem?_eq_getElem (by first | (simp; done) | (simp; omega))⟩
     have hiy : J.length < (J ++ [(⟨C.key, C.val, none, 0, 0⟩ : RP)]).length := (List.getElem?_eq_some_iff.1 hyi).1
     have hl3_ : V < bA.heap.size := hix.lt _ (.head _); have hlr_ : Z < bA.heap.size := hix.lt _ (.tail _ (.head _)); have hn3_ := hix.ne3 hri; have hnr_ := hix.ner hri
     refine .gd (mtb [ri] bA.heap.size) 13 fun c9 aH => ?_
     replace hix := hix.ext aH
     replace hE := hE.trans aH
     clear aH
     refine .r [0] <| .lb 1 hix.box (nS_of (all_cons hn3_ all_nil) hl3_) <| .r [2, 3] <| .lb 4 hix.box (nS_of (all_cons hn3_ all_nil) hl3_) <| .r [5] ?_
     have ci : J.length < (J ++ [(⟨C.key, C.val, none, 0, 0⟩ : RP)]).length := (by omega)
     refine GA.idx (i := 6) (b := Z) (o := 0) J.length (len := (J ++ [(⟨C.key, C.val, none, 0, 0⟩ : RP)]).length) (z := (J.length : Int)) (sz := 3) (by kernel_rfl) (by omega) ci rfl <| .r [7] ?_
     obtain ⟨_, rfl, aI⟩ := hix.own.elem J.length yi hyi
     replace aI : Has c9 ⟨Z, 0 + J.length * Rep.sz RP, none⟩ [vT yi.key, vT yi.val, .slice yi.a yi.n yi.c] := by rw [Nat.zero_add]; exact aI
     refine .lh 8 2 aI (nS_of (all_cons hnr_ all_nil) hlr_) <| .r [9] <| GA.int (i := 10) ((k : Int) + 1) (by kernel_rfl) (by omega) <| .go 11 <| .ns 1 3 [vI ((k : Int) + 1)] fun dB aJ => ?_
     replace hix := hix.ext aJ
     replace hE := hE.trans aJ
     clear aJ
     intro bB dC aK aL aM cj
     have ck : ∀ q_ ∈ V :: Z :: (aa ++ [aj]), Nb bB q_ := fun q_ hq_ => nb_new aK (hix.lt q_ hq_)
     have dm : W.heap.size ≤ bB := Nat.le_trans hE.size (Nat.le_of_eq (Eq.symm aK))
     replace hix := hix.ext aL
     replace hE := hE.trans aL
     clear aL cj aK
     refine .go 12 <| GE.append (T := 68) (ty := 68) (args := [.slice yi.a yi.n yi.c, vS bB 1 1]) (by kernel_rfl) fun dD ao => ?_
     replace aM := aM.ext ao
     replace hix := hix.ext ao
     replace hE := hE.trans ao
     clear ao
     have hyn := (hix.el J.length xi yi ri hxi hyi hri).2.2.n; have hyl : xi.ids.length ≤ 1000 := by have hm := List.mem_of_getElem? hxi; first | (have := af _ hm; omega) | (rcases List.mem_append.1 hm with hm | hm; (have := af _ hm; omega); (simp at hm; subst hm; simp))
     have bC := hE.size; have hge_ri := hix.new ri (IX.mi hri)
     obtain ⟨az, bi, dE, bD, aN, bM, ab⟩ := IdsO.app (P := Tryz.prog) (T := 68) (ty := 68) (hix.el J.length xi yi ri hxi hyi hri).2.2 (by kernel_rfl) aM (ck ri (IX.mi hri)) (by omega)
     refine ⟨_, _, bD, Chg.toS ab (.inl (.head _)), ?_⟩
     replace hE := Chg.stepO hE ab ⟨.inr hge_ri⟩
     refine .d fun da aq => ?_
     replace ab := Chg.trans ab (Ext.chg aq)
     replace aN := aN.ext aq
     replace hE := hE.trans aq
     clear aq
     have cm : J.length < (J ++ [(⟨C.key, C.val, none, 0, 0⟩ : RP)]).length := (by omega)
     refine RG.idx (b := Z) (o := 0) J.length (len := (J ++ [(⟨C.key, C.val, none, 0, 0⟩ : RP)]).length) (i := (J.length : Int)) (sz := 3) (by kernel_rfl) (by omega) cm rfl <| .r 1 ?_
     have bE := ownF flat_rp hix.own ab (Nb.one (hix.ner hri))
     obtain ⟨_, rfl, aO⟩ := bE.elem J.length yi hyi
     replace aO : Has da ⟨Z, 0 + J.length * Rep.sz RP, none⟩ [vT yi.key, vT yi.val, .slice yi.a yi.n yi.c] := by rw [Nat.zero_add]; exact aO
     refine RG.storeO (t' := 68) (i := J.length) (k := 2) (v := vS az (yi.n + 1) bi) (cs := [vT yi.key, vT yi.val, .slice yi.a yi.n yi.c]) (⟨yi.key, yi.val, some ⟨az, 0, none⟩, yi.n + 1, bi⟩ : RP) bE hyi aO (by kernel_rfl) (by kernel_rfl) (by kernel_rfl) rfl fun dF co aP cp => ?_
     have hge_r2 := hix.new Z (.tail _ (.head _))
     replace hix := hix.upd (i := J.length) (z := (k : Int) + 1) bC hxi hyi hri ab aN bM aP (y' := (⟨yi.key, yi.val, some ⟨az, 0, none⟩, yi.n + 1, bi⟩ : RP)) rfl co
     replace hE := Chg.stepO hE aP ⟨.inr hge_r2⟩
     clear aP cp
     refine .d <| .ib 3 <| .g <| .it ((j : Int) + 1) <| .r 1 <| .d ?_
     have hxN : ((E ++ [(⟨⟨C.key, C.val⟩, []⟩ : Pst)]).set J.length ⟨xi.tag, xi.ids ++ [(k : Int) + 1]⟩) = addT ((k : Int) + 1) E C := (topSet hxi (by rw [← bT])).trans (addT_new (by assumption)).symm
     have hbd := addT_len ((k : Int) + 1) E C (3 * k + j) bS af; rw [← hxN] at hbd
     have hfs := foldStep hfl (drop_at ay); rw [← hxN] at hfs
     exact bh (Z, bU, j + 1, ((J ++ [(⟨C.key, C.val, none, 0, 0⟩ : RP)]).set J.length (⟨yi.key, yi.val, some ⟨az, 0, none⟩, yi.n + 1, bi⟩ : RP)), ((E ++ [(⟨⟨C.key, C.val⟩, []⟩ : Pst)]).set J.length ⟨xi.tag, xi.ids ++ [(k : Int) + 1]⟩), ((aa ++ [aj]).set J.length az)) _ _ ⟨by kernel_rfl, by kernel_rfl, by kernel_rfl, by kernel_rfl, by kernel_rfl, by kernel_rfl, by kernel_rfl, by kernel_rfl, by kernel_rfl, trivial⟩ ⟨hE, hix, by omega, by have := hbd.1; omega, fun x hx => by have := hbd.2 x hx; omega, hfs⟩ (by first | omega | (simp only []; omega))
   refine .d <| .cf <| .sk ?_
   have bT := hix.lx; have c8 := hix.lr; have hib := idxP_lt (t := C) (xs := E) (by assumption)
   obtain ⟨xi, hxi⟩ : ∃ q, E[(idxP C 0 E).toNat]? = some q := ⟨_, List.getElem?_eq_getElem (by omega)⟩
   obtain ⟨yi, hyi⟩ : ∃ q, J[(idxP C 0 E).toNat]? = some q := ⟨_, List.getElem?_eq_getElem (by omega)⟩
   obtain ⟨ri, hri⟩ : ∃ q, aa[(idxP C 0 E).toNat]? = some q := ⟨_, List.getElem?_eq_getElem (by omega)⟩
   have hiy : (idxP C 0 E).toNat < J.length := (List.getElem?_eq_some_iff.1 hyi).1
   have hl3_ : V < bv.heap.size := hix.lt _ (.head _); have hlr_ : rq < bv.heap.size := hix.lt _ (.tail _ (.head _)); have hn3_ := hix.ne3 hri; have hnr_ := hix.ner hri
   refine .gd (mtb [ri] bv.heap.size) 13 fun db aQ => ?_
   replace hix := hix.ext aQ
   replace hE := hE.trans aQ
   clear aQ
   refine .r [0] <| .lb 1 hix.box (nS_of (all_cons hn3_ all_nil) hl3_) <| .r [2, 3] <| .lb 4 hix.box (nS_of (all_cons hn3_ all_nil) hl3_) <| .r [5] ?_
   have cr : (idxP C 0 E).toNat < J.length := (by omega)
   refine GA.idx (i := 6) (b := rq) (o := 0) ((idxP C 0 E).toNat) (len := J.length) (z := idxP C 0 E) (sz := 3) (by kernel_rfl) (by omega) cr rfl <| .r [7] ?_
   obtain ⟨_, rfl, aR⟩ := hix.own.elem ((idxP C 0 E).toNat) yi hyi
   replace aR : Has db ⟨rq, 0 + ((idxP C 0 E).toNat) * Rep.sz RP, none⟩ [vT yi.key, vT yi.val, .slice yi.a yi.n yi.c] := by rw [Nat.zero_add]; exact aR
   refine .lh 8 2 aR (nS_of (all_cons hnr_ all_nil) hlr_) <| .r [9] <| GA.int (i := 10) ((k : Int) + 1) (by kernel_rfl) (by omega) <| .go 11 <| .ns 1 3 [vI ((k : Int) + 1)] fun dG aS => ?_
   replace hix := hix.ext aS
   replace hE := hE.trans aS
   clear aS
   intro bF dH aT aU aV cu
   have cv : ∀ q_ ∈ V :: rq :: aa, Nb bF q_ := fun q_ hq_ => nb_new aT (hix.lt q_ hq_)
   have dp : W.heap.size ≤ bF := Nat.le_trans hE.size (Nat.le_of_eq (Eq.symm aT))
   replace hix := hix.ext aU
   replace hE := hE.trans aU
   clear aU cu aT
   refine .go 12 <| GE.append (T := 68) (ty := 68) (args := [.slice yi.a yi.n yi.c, vS bF 1 1]) (by kernel_rfl) fun dI ar => ?_
   replace aV := aV.ext ar
   replace hix := hix.ext ar
   replace hE := hE.trans ar
   clear ar
   have hyn := (hix.el (idxP C 0 E).toNat xi yi ri hxi hyi hri).2.2.n; have hyl : xi.ids.length ≤ 1000 := by have hm := List.mem_of_getElem? hxi; first | (have := af _ hm; omega) | (rcases List.mem_append.1 hm with hm | hm; (have := af _ hm; omega); (simp at hm; subst hm; simp))
   have bC := hE.size; have hge_ri := hix.new ri (IX.mi hri)
   obtain ⟨aA, bj, dJ, bG, aW, bN, ac⟩ := IdsO.app (P := Tryz.prog) (T := 68) (ty := 68) (hix.el (idxP C 0 E).toNat xi yi ri hxi hyi hri).2.2 (by kernel_rfl) aV (cv ri (IX.mi hri)) (by omega)
   refine ⟨_, _, bG, Chg.toS ac (.inl (.head _)), ?_⟩
   replace hE := Chg.stepO hE ac ⟨.inr hge_ri⟩
   refine .d fun dd au => ?_
   replace ac := Chg.trans ac (Ext.chg au)
   replace aW := aW.ext au
   replace hE := hE.trans au
   clear au
   have cw : (idxP C 0 E).toNat < J.length := (by omega)
   refine RG.idx (b := rq) (o := 0) ((idxP C 0 E).toNat) (len := J.length) (i := idxP C 0 E) (sz := 3) (by kernel_rfl) (by omega) cw rfl <| .r 1 ?_
   have bH := ownF flat_rp hix.own ac (Nb.one (hix.ner hri))
   obtain ⟨_, rfl, aX⟩ := bH.elem ((idxP C 0 E).toNat) yi hyi
   replace aX : Has dd ⟨rq, 0 + ((idxP C 0 E).toNat) * Rep.sz RP, none⟩ [vT yi.key, vT yi.val, .slice yi.a yi.n yi.c] := by rw [Nat.zero_add]; exact aX
   refine RG.storeO (t' := 68) (i := ((idxP C 0 E).toNat)) (k := 2) (v := vS aA (yi.n + 1) bj) (cs := [vT yi.key, vT yi.val, .slice yi.a yi.n yi.c]) (⟨yi.key, yi.val, some ⟨aA, 0, none⟩, yi.n + 1, bj⟩ : RP) bH hyi aX (by kernel_rfl) (by kernel_rfl) (by kernel_rfl) rfl fun dK cx aY cy => ?_
   have hge_r2 := hix.new rq (.tail _ (.head _))
   replace hix := hix.upd (i := (idxP C 0 E).toNat) (z := (k : Int) + 1) bC hxi hyi hri ac aW bN aY (y' := (⟨yi.key, yi.val, some ⟨aA, 0, none⟩, yi.n + 1, bj⟩ : RP)) rfl cx
   replace hE := Chg.stepO hE aY ⟨.inr hge_r2⟩
   clear aY cy
   refine .d <| .ib 3 <| .g <| .it ((j : Int) + 1) <| .r 1 <| .d ?_
   have hxN : (E.set ((idxP C 0 E).toNat) ⟨xi.tag, xi.ids ++ [(k : Int) + 1]⟩) = addT ((k : Int) + 1) E C := (addT_old (by assumption) hxi).symm
   have hbd := addT_len ((k : Int) + 1) E C (3 * k + j) bS af; rw [← hxN] at hbd
   have hfs := foldStep hfl (drop_at ay); rw [← hxN] at hfs
   exact bh (rq, cq, j + 1, (J.set ((idxP C 0 E).toNat) (⟨yi.key, yi.val, some ⟨aA, 0, none⟩, yi.n + 1, bj⟩ : RP)), (E.set ((idxP C 0 E).toNat) ⟨xi.tag, xi.ids ++ [(k : Int) + 1]⟩), (aa.set ((idxP C 0 E).toNat) aA)) _ _ ⟨by kernel_rfl, by kernel_rfl, by kernel_rfl, by kernel_rfl, by kernel_rfl, by kernel_rfl, by kernel_rfl, by kernel_rfl, by kernel_rfl, trivial⟩ ⟨hE, hix, by omega, by have := hbd.1; omega, fun x hx => by have := hbd.2 x hx; omega, hfs⟩ (by first | omega | (simp only []; omega))
 refine .d <| .s <| .cf <| .x 0 rfl <| .s <| .g <| .r 1 ?_
 have hEw := hEc.trans hE; have hb2n := hb2c.ext hE; have hb2l := hb2c.lt; have hoP := hix.done2 hb2l; have hNn := hix.names2; have hb3n := hix.box; have hn3r := hix.ne
 have dL : Nb V O := nb_ge (hix.new _ (.head _)) hb2l; have dM : Nb r O := nb_ge (hix.new _ (.tail _ (.head _))) hb2l
 have dW : Gb w.heap.size V := Nat.le_trans bW (hix.new _ (.head _)); have hgr : Gb w.heap.size r := Nat.le_trans bW (hix.new _ (.tail _ (.head _)))
 have hbe := bldEnd hbl (by omega)
 refine .lb hb3n <| .cl (c_SortFunc_posts hoP (by rw [hix.lx, hbe]; exact bld_le p0 p1)) ?_
 rintro dN de ⟨rfl, cz, hperm_, hsort_, aZ, ba⟩
 replace ⟨hNn, hb3n, hb2n⟩ := (so [V, r, O] ba).g3 hNn hb3n hb2n
 replace hEw : Chg nil w de := Chg.stepO hEw ba ⟨.inr hgr⟩
 clear ba
 refine .d <| .s <| .g <| .ln hb3n <| .sc [vS bk bI bJ, vS r ys.length c] hb2n fun bV bc cA cB => ?_
 replace ⟨hNn, aZ, hb3n⟩ := (so [V, r, O] bc).g3 hNn aZ hb3n
 replace hEw : Chg nil w bV := Chg.stepO hEw bc ⟨.inr cE⟩
 clear bc cB
 refine .d ?_
 have df := aZ.sl hgr
 replace hNn := (sd bV [V, r, O] r).g1 hNn
 exact .rb Tryz.func73 Tryz.results73 cA ⟨(VS.of (y := (⟨names, cz⟩ : Idx)) ⟨_, rfl, ⟨_, _, _, _, _, _, rfl, hNn.w1, df.w1⟩⟩ (by exact sort_idx p0 p1 hperm_ hsort_ hbe)), hEw⟩
end Go.Proofs.YtfnpaglcnmcnbaaGreat
