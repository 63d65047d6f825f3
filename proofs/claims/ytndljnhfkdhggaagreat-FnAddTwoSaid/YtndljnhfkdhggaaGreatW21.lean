/- walks; squeezed -/
import Derived.Test.YtndljnhfkdhggaaGreatMod21
set_option linter.unusedVariables false
set_option linter.unusedSimpArgs false
namespace Go.Proofs.YtndljnhfkdhggaaGreat
set_option maxRecDepth 100000
set_option maxHeartbeats 4000000
theorem c_impl_indexOf (names : List (List Tag)) {w : World} {F : Nat → Prop} {a1 : Option Addr} {n1 c1 : Nat} (h1 : RepS w F a1 n1 c1 names) (p0 : NmI names) (p1 : NsD names) : Calls Tryz.prog 28 [.slice a1 n1 c1].toArray w (rets fun rv w' => VS (ge w.heap.size) w' (idxOf names : Idx) rv ∧ Ext w w') := by
 refine goT Tryz.func28 ?_
 obtain ⟨rfl, dp, h1⟩ := h1.tp
 refine .s <| .g <| .np 26 [.slice none 0 0, .slice none 0 0] fun O cB bk bm av cC => ?_
 have cD := gb_new bk (Nat.le_refl _)
 replace h1 := (sn [] bm bk).g1 h1
 have ag := bm
 clear bm cC bk
 refine .d <| .s <| .g <| .r 1 <| .cl (c_impl_cloneNames names h1.ta (by have := p0.len; omega) (fun n hn => by have := (nameOk_sz (p0.ok n hn)).1; omega) (w := cB) (F := all)) ?_
 rintro dN W ⟨⟨bj, bH, bI, rfl, aw, bc⟩, bN⟩
 have bO := al1 av.lt
 have cE : Gb w.heap.size cB.heap.size := ag.size
 have dq := nb_ge bc av.lt
 have cF := gb_ge bc ag.size
 replace ⟨h1, av, ag⟩ := (sz [O] bN bc).g3 h1 av ag
 clear bN bc
 replace aw := Own.take (s0 := w.heap.size) (M := [O]) aw bO cE
 have dr := aw.len; have dt := aw.max
 clear bO
 have ak := aw.sl cF
 replace h1 := (sd W [bj, O] bj).g1 h1
 have bV : w.heap.size ≤ W.heap.size := ag.size
 replace ak : RepS W (nin (GN w.heap.size W.heap.size O) [O]) _ _ _ _ := ak.toGN.weak (fun b _ h => ⟨h, by simp; exact h.2.2⟩)
 have h1c := h1.toLow; have hEc := ag; have hb2c := av
 refine .ns 0 95 [] fun aB dh bn bo cG cH => ?_
 have cI : Cov nil W aB := cov_new bn (Nat.le_refl _)
 replace ak := (sn [O] bo bn).g1 ak
 have ah := bo
 clear bo cH bn
 have ai : Own (α := Pst) dh aB 95 (nin (ge w.heap.size) [aB, O]) 0 0 [] := Own.nil' cG
 refine .r 1 <| .np 26 [.slice none 0 0, .slice none 0 0] fun V dO bd bP cJ cK => ?_
 have cL := nb_new bd ai.lt
 have cM := ah.cn bd
 replace ⟨ak, ai, ah⟩ := (sn [aB, O] bP bd).g3 ak ai ah
 clear bP cK bd
 refine .sc [vS bj bH bI, vS aB 0 0] cJ fun dP bQ cN cO => ?_
 replace ⟨ak, ai, ah⟩ := (so [V, aB, O] bQ).g3 ak ai ah
 clear bQ cO
 refine .d <| .s <| .s <| .g <| .r 3 <| .d <| .b 0 ?_
 have hix := IX.new0 (tX := 26) (tP := 95) (tI := 3) (s0 := w.heap.size) (s1 := W.heap.size) bV (GN.lt (b2 := O)) ak.w1 cN ai cL (Cov.ge cM) (Cov.ge cI)
 have hE := ah
 refine T.loop (X := Nat × Nat × Nat × List RP × List Pst × List Nat) (aB, 0, 0, [], [], []) (fun (r, c, k, ys, xs, rs) => [(2, .pointer (some ⟨O, 0, none⟩)), (3, .pointer (some ⟨V, 0, none⟩)), (13, .slice a1 names.length c1), (14, vI (names.length : Int)), (15, vI (k : Int))]) (fun (r, c, k, ys, xs, rs) w_ => Ext W w_ ∧ IX 26 95 3 w.heap.size W.heap.size (GN w.heap.size W.heap.size O) w_ V r c (some ⟨bj, 0, none⟩) bH bI names ys xs rs ∧ k ≤ names.length ∧ xs.length ≤ 3 * k ∧ (∀ x ∈ xs, x.ids.length ≤ 3 * k) ∧ bldF k xs (names.drop k) = bldF 0 [] names) (fun (r, c, k, ys, xs, rs) => names.length - k) (by kernel_rfl) ⟨by kernel_rfl, by kernel_rfl, by kernel_rfl, by kernel_rfl, by kernel_rfl, trivial⟩ ⟨hE, hix, by omega, by simp, by simp, rfl⟩ ?_
 clear hix hE
 rintro ⟨r, c, k, ys, xs, rs⟩ e1_ dQ ⟨hE, hix, hk, hxl, hil, hbl⟩ bJ
 have hnm := h1c.ext hE
 refine .s <| .g <| .bp ((k : Int) < (names.length : Int)) (fun cP => ?_) (fun cP => ?_)
 · refine .d <| .s <| .ct <| .sk <| .s <| .b 1 <| .s <| .g <| .r 1 ?_
   have cQ : k < names.length := (by omega)
   refine .ix k 1 hnm cQ ?_
   obtain ⟨ae, ax⟩ : ∃ y, names[k]? = some y := ⟨_, List.getElem?_eq_getElem (by omega)⟩
   have du := drop_at ax; have df := List.mem_of_getElem? ax
   obtain ⟨_, ⟨di, dR, dj, rfl, bW⟩, cR⟩ := hnm.elem k ae ax
   have cS := bW.len
   subst cS
   have dv := bW.max
   refine .lh 0 cR <| .r 2 <| .d <| .s <| .g <| .r 3 <| .d <| .b 2 ?_
   have hEA := hE; have dS := (nameOk_sz (p0.ok ae (List.mem_of_getElem? ax))).1; have hnl := p0.len
   refine T.loop (X := Nat × Nat × Nat × List RP × List Pst × List Nat) (r, c, 0, ys, xs, rs) (fun (rq, cq, j, J, E, aa) => [(2, .pointer (some ⟨O, 0, none⟩)), (3, .pointer (some ⟨V, 0, none⟩)), (4, vI (k : Int)), (13, .slice a1 names.length c1), (14, vI (names.length : Int)), (15, vI (k : Int)), (20, .slice di ae.length dj), (21, vI (ae.length : Int)), (22, vI (j : Int))]) (fun (rq, cq, j, J, E, aa) w_ => Ext W w_ ∧ IX 26 95 3 w.heap.size W.heap.size (GN w.heap.size W.heap.size O) w_ V rq cq (some ⟨bj, 0, none⟩) bH bI names J E aa ∧ j ≤ ae.length ∧ E.length ≤ 3 * k + j ∧ (∀ x ∈ E, x.ids.length ≤ 3 * k + j) ∧ (ae.drop j).foldl (addT ((k : Int) + 1)) E = ae.foldl (addT ((k : Int) + 1)) xs) (fun (rq, cq, j, J, E, aa) => ae.length - j) (by kernel_rfl) ⟨by kernel_rfl, by kernel_rfl, by kernel_rfl, by kernel_rfl, by kernel_rfl, by kernel_rfl, by kernel_rfl, by kernel_rfl, by kernel_rfl, trivial⟩ ⟨hE, hix, by omega, by omega, fun x hx => by have := hil x hx; omega, rfl⟩ ?_
   clear hix hE
   rintro ⟨rq, cq, j, J, E, aa⟩ e2_ dT ⟨hE, hix, hj, bR, af, hfl⟩ bg
   have cT := bW.via hEA hE
   refine .s <| .g <| .bp ((j : Int) < (ae.length : Int)) (fun cU => ?_) (fun cU => .d <| .s <| .cf <| .x 2 rfl <| .ib 1 <| .g <| .it ((k : Int) + 1) <| .r 1 <| .d <| bJ (rq, cq, k + 1, J, E, aa) _ _ ⟨by kernel_rfl, by kernel_rfl, by kernel_rfl, by kernel_rfl, by kernel_rfl, trivial⟩ ⟨hE, hix, by omega, by omega, fun x hx => by have := af x hx; omega, bldStep hbl (drop_at ax) (foldEnd hfl (by omega))⟩ (by first | omega | (simp only []; omega)))
   refine .d <| .s <| .ct <| .sk <| .s <| .b 3 <| .s <| .g ?_
   have cV : j < ae.length := (by omega)
   refine .ix j 2 cT cV ?_
   obtain ⟨C, ay⟩ : ∃ y, ae[j]? = some y := ⟨_, List.getElem?_eq_getElem (by omega)⟩
   have dw := drop_at ay; have dg := List.mem_of_getElem? ay
   obtain ⟨_, rfl, cW⟩ := cT.elem j C ay
   refine .lg 0 cW <| .np 87 [.string (bs []), .string (bs [])] fun cX dU bq br cY bX => ?_
   have bY : ∀ q_ ∈ V :: rq :: aa, Nb cX q_ := fun q_ hq_ => nb_new bq (hix.lt q_ hq_)
   have bt : W.heap.size ≤ cX := Nat.le_trans hE.size (Nat.le_of_eq (Eq.symm bq))
   replace hix := hix.ext br
   replace hE := hE.trans br
   clear br bX bq
   refine .sc [vT C.key, vT C.val] cY fun cZ aC al bZ => ?_
   replace hix := hix.one aC bY bt
   replace hE := Chg.stepO hE aC ⟨.inr bt⟩
   clear aC bZ
   refine .d <| .s <| .g <| .r 1 <| .lb hix.box <| .r 1 <| .cl (c_IndexFunc_posts E C (hix.rep.weak (F' := all) (fun _ _ _ => trivial)) al (w := cZ) (F := all)) ?_
   rintro dx bu ⟨rfl, am⟩
   replace al := al.ext am
   replace hix := hix.ext am
   replace hE := hE.trans am
   clear am
   refine .r 1 <| .d <| .s <| .s <| .g <| .r 1 <| .bp (idxP C 0 E < 0) (fun b0 => ?_) (fun b0 => ?_)
   · refine .d <| .ct <| .s <| .g <| .r 1 <| .lb hix.box <| .r 2 <| .d <| .g <| .r 1 <| .lb hix.box <| .ln al <| .r 1 <| .ns 1 95 [vT C.key, vT C.val, .slice none 0 0] fun aj dy aD aE bv b6 => ?_
     have bw : ∀ q_ ∈ V :: rq :: aa, Nb aj q_ := fun q_ hq_ => nb_new aD (hix.lt q_ hq_)
     have b7 : W.heap.size ≤ aj := Nat.le_trans hE.size (Nat.le_of_eq (Eq.symm aD))
     replace hix := hix.ext aE
     replace hE := hE.trans aE
     clear aE b6 aD
     have bS := hix.lx; have c7 := hix.lr; have hvl_ := bv.lt; have hge_r := hix.new rq (.tail _ (.head _)); have b8 := hix.new V (.head _); have hEs := hE.size
     refine RG.append1 (T := 24) (ty := 24) (y := (⟨C.key, C.val, none, 0, 0⟩ : RP)) hix.own bv (by kernel_rfl) (by kernel_rfl) rfl ⟨trivial, bw rq (.tail _ (.head _))⟩ (by omega) fun Z bT dz b9 bK aF => ?_
     replace hE := Chg.stepO hE aF ⟨.inr hge_r⟩
     refine .r 1 <| .ss 1 (vS Z (J.length + 1) bT) (hix.box.chg aF (Nb.one hix.ne)) fun bz aG cd ce => ?_
     replace hix := hix.push (t := ⟨C.key, C.val⟩) (vb := aj) hEs aF b9 bK bw b7 hvl_ aG cd
     replace hE := Chg.stepO hE aG ⟨.inr b8⟩
     clear aG ce
     refine .d ?_
     obtain ⟨xi, hxi⟩ : ∃ q, (E ++ [(⟨⟨C.key, C.val⟩, []⟩ : Pst)])[J.length]? = some q := ⟨_, List.getElem?_eq_getElem (by first | (simp; done) | (simp; omega))⟩
     obtain ⟨yi, hyi⟩ : ∃ q, (J ++ [(⟨C.key, C.val, none, 0, 0⟩ : RP)])[J.length]? = some q := ⟨_, List.getElem?_eq_getElem (by first | (simp; done) | (simp; omega))⟩
     obtain ⟨ri, hri⟩ : ∃ q, (aa ++ [aj])[J.length]? = some q := ⟨_, List.getElem?_eq_getElem (by first | (simp; done) | (simp; omega))⟩
     have hiy : J.length < (J ++ [(⟨C.key, C.val, none, 0, 0⟩ : RP)]).length := (List.getElem?_eq_some_iff.1 hyi).1
     have hl3_ : V < bz.heap.size := hix.lt _ (.head _); have hlr_ : Z < bz.heap.size := hix.lt _ (.tail _ (.head _)); have hn3_ := hix.ne3 hri; have hnr_ := hix.ner hri
     refine .gd (mtb [ri] bz.heap.size) 13 fun c8 aH => ?_
     replace hix := hix.ext aH
     replace hE := hE.trans aH
     clear aH
     refine .r [0] <| .lb 1 hix.box (nS_of (all_cons hn3_ all_nil) hl3_) <| .r [2, 3] <| .lb 4 hix.box (nS_of (all_cons hn3_ all_nil) hl3_) <| .r [5] ?_
     have cg : J.length < (J ++ [(⟨C.key, C.val, none, 0, 0⟩ : RP)]).length := (by omega)
     refine GA.idx (i := 6) (b := Z) (o := 0) J.length (len := (J ++ [(⟨C.key, C.val, none, 0, 0⟩ : RP)]).length) (z := (J.length : Int)) (sz := 3) (by kernel_rfl) (by omega) cg rfl <| .r [7] ?_
     obtain ⟨_, rfl, aI⟩ := hix.own.elem J.length yi hyi
     replace aI : Has c8 ⟨Z, 0 + J.length * Rep.sz RP, none⟩ [vT yi.key, vT yi.val, .slice yi.a yi.n yi.c] := by rw [Nat.zero_add]; exact aI
     refine .lh 8 2 aI (nS_of (all_cons hnr_ all_nil) hlr_) <| .r [9] <| GA.int (i := 10) ((k : Int) + 1) (by kernel_rfl) (by omega) <| .go 11 <| .ns 1 3 [vI ((k : Int) + 1)] fun dA aJ => ?_
     replace hix := hix.ext aJ
     replace hE := hE.trans aJ
     clear aJ
     intro bA dB aK aL aM ci
     have cj : ∀ q_ ∈ V :: Z :: (aa ++ [aj]), Nb bA q_ := fun q_ hq_ => nb_new aK (hix.lt q_ hq_)
     have dk : W.heap.size ≤ bA := Nat.le_trans hE.size (Nat.le_of_eq (Eq.symm aK))
     replace hix := hix.ext aL
     replace hE := hE.trans aL
     clear aL ci aK
     refine .go 12 <| GE.append (T := 49) (ty := 49) (args := [.slice yi.a yi.n yi.c, vS bA 1 1]) (by kernel_rfl) fun dC ao => ?_
     replace aM := aM.ext ao
     replace hix := hix.ext ao
     replace hE := hE.trans ao
     clear ao
     have hyn := (hix.el J.length xi yi ri hxi hyi hri).2.2.n; have hyl : xi.ids.length ≤ 1000 := by have hm := List.mem_of_getElem? hxi; first | (have := af _ hm; omega) | (rcases List.mem_append.1 hm with hm | hm; (have := af _ hm; omega); (simp at hm; subst hm; simp))
     have bB := hE.size; have hge_ri := hix.new ri (IX.mi hri)
     obtain ⟨az, bh, dD, bC, aN, bL, ab⟩ := IdsO.app (P := Tryz.prog) (T := 49) (ty := 49) (hix.el J.length xi yi ri hxi hyi hri).2.2 (by kernel_rfl) aM (cj ri (IX.mi hri)) (by omega)
     refine ⟨_, _, bC, Chg.toS ab (.inl (.head _)), ?_⟩
     replace hE := Chg.stepO hE ab ⟨.inr hge_ri⟩
     refine .d fun c9 aq => ?_
     replace ab := Chg.trans ab (Ext.chg aq)
     replace aN := aN.ext aq
     replace hE := hE.trans aq
     clear aq
     have ck : J.length < (J ++ [(⟨C.key, C.val, none, 0, 0⟩ : RP)]).length := (by omega)
     refine RG.idx (b := Z) (o := 0) J.length (len := (J ++ [(⟨C.key, C.val, none, 0, 0⟩ : RP)]).length) (i := (J.length : Int)) (sz := 3) (by kernel_rfl) (by omega) ck rfl <| .r 1 ?_
     have bD := ownF flat_rp hix.own ab (Nb.one (hix.ner hri))
     obtain ⟨_, rfl, aO⟩ := bD.elem J.length yi hyi
     replace aO : Has c9 ⟨Z, 0 + J.length * Rep.sz RP, none⟩ [vT yi.key, vT yi.val, .slice yi.a yi.n yi.c] := by rw [Nat.zero_add]; exact aO
     refine RG.storeO (t' := 49) (i := J.length) (k := 2) (v := vS az (yi.n + 1) bh) (cs := [vT yi.key, vT yi.val, .slice yi.a yi.n yi.c]) (⟨yi.key, yi.val, some ⟨az, 0, none⟩, yi.n + 1, bh⟩ : RP) bD hyi aO (by kernel_rfl) (by kernel_rfl) (by kernel_rfl) rfl fun dE cm aP co => ?_
     have hge_r2 := hix.new Z (.tail _ (.head _))
     replace hix := hix.upd (i := J.length) (z := (k : Int) + 1) bB hxi hyi hri ab aN bL aP (y' := (⟨yi.key, yi.val, some ⟨az, 0, none⟩, yi.n + 1, bh⟩ : RP)) rfl cm
     replace hE := Chg.stepO hE aP ⟨.inr hge_r2⟩
     clear aP co
     refine .d <| .ib 3 <| .g <| .it ((j : Int) + 1) <| .r 1 <| .d ?_
     have hxN : ((E ++ [(⟨⟨C.key, C.val⟩, []⟩ : Pst)]).set J.length ⟨xi.tag, xi.ids ++ [(k : Int) + 1]⟩) = addT ((k : Int) + 1) E C := (topSet hxi (by rw [← bS])).trans (addT_new (by assumption)).symm
     have hbd := addT_len ((k : Int) + 1) E C (3 * k + j) bR af; rw [← hxN] at hbd
     have hfs := foldStep hfl (drop_at ay); rw [← hxN] at hfs
     exact bg (Z, bT, j + 1, ((J ++ [(⟨C.key, C.val, none, 0, 0⟩ : RP)]).set J.length (⟨yi.key, yi.val, some ⟨az, 0, none⟩, yi.n + 1, bh⟩ : RP)), ((E ++ [(⟨⟨C.key, C.val⟩, []⟩ : Pst)]).set J.length ⟨xi.tag, xi.ids ++ [(k : Int) + 1]⟩), ((aa ++ [aj]).set J.length az)) _ _ ⟨by kernel_rfl, by kernel_rfl, by kernel_rfl, by kernel_rfl, by kernel_rfl, by kernel_rfl, by kernel_rfl, by kernel_rfl, by kernel_rfl, trivial⟩ ⟨hE, hix, by omega, by have := hbd.1; omega, fun x hx => by have := hbd.2 x hx; omega, hfs⟩ (by first | omega | (simp only []; omega))
   refine .d <| .cf <| .sk ?_
   have bS := hix.lx; have c7 := hix.lr; have hib := idxP_lt (t := C) (xs := E) (by assumption)
   obtain ⟨xi, hxi⟩ : ∃ q, E[(idxP C 0 E).toNat]? = some q := ⟨_, List.getElem?_eq_getElem (by omega)⟩
   obtain ⟨yi, hyi⟩ : ∃ q, J[(idxP C 0 E).toNat]? = some q := ⟨_, List.getElem?_eq_getElem (by omega)⟩
   obtain ⟨ri, hri⟩ : ∃ q, aa[(idxP C 0 E).toNat]? = some q := ⟨_, List.getElem?_eq_getElem (by omega)⟩
   have hiy : (idxP C 0 E).toNat < J.length := (List.getElem?_eq_some_iff.1 hyi).1
   have hl3_ : V < bu.heap.size := hix.lt _ (.head _); have hlr_ : rq < bu.heap.size := hix.lt _ (.tail _ (.head _)); have hn3_ := hix.ne3 hri; have hnr_ := hix.ner hri
   refine .gd (mtb [ri] bu.heap.size) 13 fun da aQ => ?_
   replace hix := hix.ext aQ
   replace hE := hE.trans aQ
   clear aQ
   refine .r [0] <| .lb 1 hix.box (nS_of (all_cons hn3_ all_nil) hl3_) <| .r [2, 3] <| .lb 4 hix.box (nS_of (all_cons hn3_ all_nil) hl3_) <| .r [5] ?_
   have cp : (idxP C 0 E).toNat < J.length := (by omega)
   refine GA.idx (i := 6) (b := rq) (o := 0) ((idxP C 0 E).toNat) (len := J.length) (z := idxP C 0 E) (sz := 3) (by kernel_rfl) (by omega) cp rfl <| .r [7] ?_
   obtain ⟨_, rfl, aR⟩ := hix.own.elem ((idxP C 0 E).toNat) yi hyi
   replace aR : Has da ⟨rq, 0 + ((idxP C 0 E).toNat) * Rep.sz RP, none⟩ [vT yi.key, vT yi.val, .slice yi.a yi.n yi.c] := by rw [Nat.zero_add]; exact aR
   refine .lh 8 2 aR (nS_of (all_cons hnr_ all_nil) hlr_) <| .r [9] <| GA.int (i := 10) ((k : Int) + 1) (by kernel_rfl) (by omega) <| .go 11 <| .ns 1 3 [vI ((k : Int) + 1)] fun dF aS => ?_
   replace hix := hix.ext aS
   replace hE := hE.trans aS
   clear aS
   intro bE dG aT aU aV cr
   have cu : ∀ q_ ∈ V :: rq :: aa, Nb bE q_ := fun q_ hq_ => nb_new aT (hix.lt q_ hq_)
   have dm : W.heap.size ≤ bE := Nat.le_trans hE.size (Nat.le_of_eq (Eq.symm aT))
   replace hix := hix.ext aU
   replace hE := hE.trans aU
   clear aU cr aT
   refine .go 12 <| GE.append (T := 49) (ty := 49) (args := [.slice yi.a yi.n yi.c, vS bE 1 1]) (by kernel_rfl) fun dH ar => ?_
   replace aV := aV.ext ar
   replace hix := hix.ext ar
   replace hE := hE.trans ar
   clear ar
   have hyn := (hix.el (idxP C 0 E).toNat xi yi ri hxi hyi hri).2.2.n; have hyl : xi.ids.length ≤ 1000 := by have hm := List.mem_of_getElem? hxi; first | (have := af _ hm; omega) | (rcases List.mem_append.1 hm with hm | hm; (have := af _ hm; omega); (simp at hm; subst hm; simp))
   have bB := hE.size; have hge_ri := hix.new ri (IX.mi hri)
   obtain ⟨aA, bi, dI, bF, aW, bM, ac⟩ := IdsO.app (P := Tryz.prog) (T := 49) (ty := 49) (hix.el (idxP C 0 E).toNat xi yi ri hxi hyi hri).2.2 (by kernel_rfl) aV (cu ri (IX.mi hri)) (by omega)
   refine ⟨_, _, bF, Chg.toS ac (.inl (.head _)), ?_⟩
   replace hE := Chg.stepO hE ac ⟨.inr hge_ri⟩
   refine .d fun db au => ?_
   replace ac := Chg.trans ac (Ext.chg au)
   replace aW := aW.ext au
   replace hE := hE.trans au
   clear au
   have cv : (idxP C 0 E).toNat < J.length := (by omega)
   refine RG.idx (b := rq) (o := 0) ((idxP C 0 E).toNat) (len := J.length) (i := idxP C 0 E) (sz := 3) (by kernel_rfl) (by omega) cv rfl <| .r 1 ?_
   have bG := ownF flat_rp hix.own ac (Nb.one (hix.ner hri))
   obtain ⟨_, rfl, aX⟩ := bG.elem ((idxP C 0 E).toNat) yi hyi
   replace aX : Has db ⟨rq, 0 + ((idxP C 0 E).toNat) * Rep.sz RP, none⟩ [vT yi.key, vT yi.val, .slice yi.a yi.n yi.c] := by rw [Nat.zero_add]; exact aX
   refine RG.storeO (t' := 49) (i := ((idxP C 0 E).toNat)) (k := 2) (v := vS aA (yi.n + 1) bi) (cs := [vT yi.key, vT yi.val, .slice yi.a yi.n yi.c]) (⟨yi.key, yi.val, some ⟨aA, 0, none⟩, yi.n + 1, bi⟩ : RP) bG hyi aX (by kernel_rfl) (by kernel_rfl) (by kernel_rfl) rfl fun dJ cw aY cx => ?_
   have hge_r2 := hix.new rq (.tail _ (.head _))
   replace hix := hix.upd (i := (idxP C 0 E).toNat) (z := (k : Int) + 1) bB hxi hyi hri ac aW bM aY (y' := (⟨yi.key, yi.val, some ⟨aA, 0, none⟩, yi.n + 1, bi⟩ : RP)) rfl cw
   replace hE := Chg.stepO hE aY ⟨.inr hge_r2⟩
   clear aY cx
   refine .d <| .ib 3 <| .g <| .it ((j : Int) + 1) <| .r 1 <| .d ?_
   have hxN : (E.set ((idxP C 0 E).toNat) ⟨xi.tag, xi.ids ++ [(k : Int) + 1]⟩) = addT ((k : Int) + 1) E C := (addT_old (by assumption) hxi).symm
   have hbd := addT_len ((k : Int) + 1) E C (3 * k + j) bR af; rw [← hxN] at hbd
   have hfs := foldStep hfl (drop_at ay); rw [← hxN] at hfs
   exact bg (rq, cq, j + 1, (J.set ((idxP C 0 E).toNat) (⟨yi.key, yi.val, some ⟨aA, 0, none⟩, yi.n + 1, bi⟩ : RP)), (E.set ((idxP C 0 E).toNat) ⟨xi.tag, xi.ids ++ [(k : Int) + 1]⟩), (aa.set ((idxP C 0 E).toNat) aA)) _ _ ⟨by kernel_rfl, by kernel_rfl, by kernel_rfl, by kernel_rfl, by kernel_rfl, by kernel_rfl, by kernel_rfl, by kernel_rfl, by kernel_rfl, trivial⟩ ⟨hE, hix, by omega, by have := hbd.1; omega, fun x hx => by have := hbd.2 x hx; omega, hfs⟩ (by first | omega | (simp only []; omega))
 refine .d <| .s <| .cf <| .x 0 rfl <| .s <| .g <| .r 1 ?_
 have hEw := hEc.trans hE; have hb2n := hb2c.ext hE; have hb2l := hb2c.lt; have hoP := hix.done2 hb2l; have hNn := hix.names2; have hb3n := hix.box; have hn3r := hix.ne
 have dK : Nb V O := nb_ge (hix.new _ (.head _)) hb2l; have dL : Nb r O := nb_ge (hix.new _ (.tail _ (.head _))) hb2l
 have dV : Gb w.heap.size V := Nat.le_trans bV (hix.new _ (.head _)); have hgr : Gb w.heap.size r := Nat.le_trans bV (hix.new _ (.tail _ (.head _)))
 have hbe := bldEnd hbl (by omega)
 refine .lb hb3n <| .cl (c_SortFunc_posts hoP (by rw [hix.lx, hbe]; exact bld_le p0 p1)) ?_
 rintro dM dd ⟨rfl, cy, hperm_, hsort_, aZ, ba⟩
 replace ⟨hNn, hb3n, hb2n⟩ := (so [V, r, O] ba).g3 hNn hb3n hb2n
 replace hEw : Chg nil w dd := Chg.stepO hEw ba ⟨.inr hgr⟩
 clear ba
 refine .d <| .s <| .g <| .ln hb3n <| .sc [vS bj bH bI, vS r ys.length c] hb2n fun bU bb cz cA => ?_
 replace ⟨hNn, aZ, hb3n⟩ := (so [V, r, O] bb).g3 hNn aZ hb3n
 replace hEw : Chg nil w bU := Chg.stepO hEw bb ⟨.inr cD⟩
 clear bb cA
 refine .d ?_
 have de := aZ.sl hgr
 replace hNn := (sd bU [V, r, O] r).g1 hNn
 exact .rb Tryz.func28 Tryz.results28 cz ⟨(VS.of (y := (⟨names, cy⟩ : Idx)) ⟨_, rfl, ⟨_, _, _, _, _, _, rfl, hNn.w1, de.w1⟩⟩ (by exact sort_idx p0 p1 hperm_ hsort_ hbe)), hEw⟩
end Go.Proofs.YtndljnhfkdhggaaGreat