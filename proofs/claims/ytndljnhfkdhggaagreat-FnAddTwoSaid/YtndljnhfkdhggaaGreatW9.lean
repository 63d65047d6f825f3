/- walks; squeezed -/
import Derived.Test.YtndljnhfkdhggaaGreatMod9
set_option linter.unusedVariables false
set_option linter.unusedSimpArgs false
namespace Go.Proofs.YtndljnhfkdhggaaGreat
set_option maxRecDepth 100000
set_option maxHeartbeats 4000000
theorem c_spec_l22Copy (w_ : Wld) {w : World} {F : Nat → Prop} {a1 : Option Addr} {n1 c1 : Nat} (h1 : RepS w F a1 n1 c1 w_.store.idx.names) {a2 : Option Addr} {n2 c2 : Nat} (h2 : RepS w F a2 n2 c2 w_.store.idx.posts) {a3 : Option Addr} {n3 c3 : Nat} (h3 : RepS w F a3 n3 c3 w_.store.parts) {a4 : Option Addr} {n4 c4 : Nat} (h4 : RepS w F a4 n4 c4 w_.store.mem) {a5 : Option Addr} {n5 c5 : Nat} (h5 : RepS w F a5 n5 c5 w_.disk.files) {a6 : Option Addr} {n6 c6 : Nat} (h6 : RepS w F a6 n6 c6 w_.disk.list) {a7 : Option Addr} {n7 c7 : Nat} (h7 : RepS w F a7 n7 c7 w_.disk.names) (p0 : WI w_) : Calls Tryz.prog 69 [.agg #[.slice a1 n1 c1, .slice a2 n2 c2, .slice a3 n3 c3, .slice a4 n4 c4, .slice a5 n5 c5, .slice a6 n6 c6, .slice a7 n7 c7, .int .i64 w_.disk.next]].toArray w (rets fun rv w' => (∃ (a0 : Option Addr) (n0 c0 : Nat) (a1 : Option Addr) (n1 c1 : Nat) (a2 : Option Addr) (n2 c2 : Nat) (r3 n3 c3 : Nat) (r4 n4 c4 : Nat) (r5 n5 c5 : Nat) (r6 n6 c6 : Nat), rv = .agg #[.slice a0 n0 c0, .slice a1 n1 c1, .slice a2 n2 c2, .slice (some ⟨r3, 0, none⟩) n3 c3, .slice (some ⟨r4, 0, none⟩) n4 c4, .slice (some ⟨r5, 0, none⟩) n5 c5, .slice (some ⟨r6, 0, none⟩) n6 c6, .int .i64 ((((copyW w_)).disk).next)] ∧ RepS w' (nin (ge w.heap.size) [r3, r4, r5, r6]) a0 n0 c0 (((((copyW w_)).store).idx).names) ∧ RepS w' (nin (ge w.heap.size) [r3, r4, r5, r6]) a1 n1 c1 (((((copyW w_)).store).idx).posts) ∧ RepS w' (nin (ge w.heap.size) [r3, r4, r5, r6]) a2 n2 c2 ((((copyW w_)).store).parts) ∧ Own w' r3 62 (nin (ge w.heap.size) [r3, r4, r5, r6]) n3 c3 ((((copyW w_)).store).mem) ∧ w.heap.size ≤ r3 ∧ Own w' r4 165 (nin (ge w.heap.size) [r3, r4, r5, r6]) n4 c4 ((((copyW w_)).disk).files) ∧ w.heap.size ≤ r4 ∧ Nb r4 r3 ∧ Own w' r5 3 (nin (ge w.heap.size) [r3, r4, r5, r6]) n5 c5 ((((copyW w_)).disk).list) ∧ w.heap.size ≤ r5 ∧ Nb r5 r3 ∧ Nb r5 r4 ∧ Own w' r6 31 (nin (ge w.heap.size) [r3, r4, r5, r6]) n6 c6 ((((copyW w_)).disk).names) ∧ w.heap.size ≤ r6 ∧ Nb r6 r3 ∧ Nb r6 r4 ∧ Nb r6 r5) ∧ Ext w w') := by
 refine goT Tryz.func69 ?_
 obtain ⟨rfl, bG, h1⟩ := h1.tp
 obtain ⟨rfl, bH, h2⟩ := h2.tp
 obtain ⟨rfl, bI, h3⟩ := h3.tp
 obtain ⟨rfl, bJ, h4⟩ := h4.tp
 obtain ⟨rfl, bK, h5⟩ := h5.tp
 obtain ⟨rfl, bL, h6⟩ := h6.tp
 obtain ⟨rfl, bM, h7⟩ := h7.tp
 refine .s <| .g <| .np 53 [.slice a1 w_.store.idx.names.length c1, .slice a2 w_.store.idx.posts.length c2, .slice a3 w_.store.parts.length c3, .slice a4 w_.store.mem.length c4, .slice a5 w_.disk.files.length c5, .slice a6 w_.disk.list.length c6, .slice a7 w_.disk.names.length c7, vI w_.disk.next] fun O bV aF ax V ba => ?_
 replace ⟨h1, h2, h3, h4, h5, h6, h7⟩ := (sn [] ax aF).g7 h1 h2 h3 h4 h5 h6 h7
 have C := ax
 clear ax ba aF
 refine .np 53 [.slice none 0 0, .slice none 0 0, .slice none 0 0, .slice none 0 0, .slice none 0 0, .slice none 0 0, .slice none 0 0, vI 0] fun W bW ay aG E bb => ?_
 have bN := C.cn ay
 replace ⟨h1, h2, h3, h4, h5, h6, h7, V, C⟩ := (sn [O] aG ay).g9 h1 h2 h3 h4 h5 h6 h7 V C
 clear aG bb ay
 refine .d <| .s <| .gd nil 5 fun bX aH => ?_
 replace ⟨h1, h2, h3, h4, h5, h6, h7, V, E, C⟩ := (se [W, O] aH).g10 h1 h2 h3 h4 h5 h6 h7 V E C
 clear aH
 refine .r [0] <| .ln 1 V id <| .r [3] <| .ln 4 V id <| .go 2 <| .cl (fun aN aj => c_spec_l13Copy w_.store (h1.ta.ext aj) (h2.ta.ext aj) (h3.ta.ext aj) (h4.ta.ext aj) p0.sto.sz (w := aN) (F := all)) ?_
 intro aN aj
 replace ⟨h5, h6, h7, V, E, C⟩ := (se [W, O] aj).g6 h5 h6 h7 V E C
 rintro bY aD ⟨⟨bc, bZ, bd, bg, b0, bh, bi, b6, bj, Z, bk, bm, rfl, ac, ae, af, J, av⟩, az⟩
 have al := al2 E.lt V.lt
 have aw : Gb w.heap.size aN.heap.size := C.size
 have hkeep_ := az
 have bO := nb_ge av E.lt
 have bn := gb_ge av C.size
 replace ⟨h5, h6, h7, V, E, C⟩ := (sz [W, O] az av).g6 h5 h6 h7 V E C
 clear az av
 refine ⟨Ext.chg hkeep_, ?_⟩
 replace ac : RepS aD (nin (ge w.heap.size) [Z, W, O]) _ _ _ _ := RepS.takeM (s0 := w.heap.size) (M := [W, O]) ac al aw
 have bP := ac.max
 replace ae : RepS aD (nin (ge w.heap.size) [Z, W, O]) _ _ _ _ := RepS.takeM (s0 := w.heap.size) (M := [W, O]) ae al aw
 have bQ := ae.max
 replace af : RepS aD (nin (ge w.heap.size) [Z, W, O]) _ _ _ _ := RepS.takeM (s0 := w.heap.size) (M := [W, O]) af al aw
 have bR := af.max
 replace J : Own aD Z 62 (nin (ge w.heap.size) [Z, W, O]) _ _ _ := Own.takeM (s0 := w.heap.size) (M := [W, O]) J al aw
 have bS := J.max
 have bT := J.len
 clear al
 have bo := ac.len
 subst bo
 have bq := ae.len
 subst bq
 have br := af.len
 subst br
 refine .d fun aO aI => ?_
 replace ⟨h5, h6, h7, V, E, ac, ae, af, J, C⟩ := (se [Z, W, O] aI).g10 h5 h6 h7 V E ac ae af J C
 clear aI
 refine .cl (c_spec_l21Copy w_.disk h5.ta h6.ta h7.ta (by have := p0.dsk.nm.len; omega) (fun n hn => by have := (p0.dsk.nm.sz n hn).1; omega) (by have := p0.dsk.nl; omega) (by have := p0.dsk.nf; omega) (fun f hf => (p0.dsk.file f hf).sz) (w := aO) (F := all)) ?_
 rintro b7 aE ⟨⟨am, bt, bu, ao, aJ, aK, aq, aL, aM, rfl, ag, ar, aa, ah, aP, ab, ai, aQ, aR⟩, aA⟩
 have ak := al3 J.lt E.lt V.lt
 have au : Gb w.heap.size aO.heap.size := C.size
 have bv := nb_ge ar E.lt
 have aS := nb_ge ar J.lt
 have aT := gb_ge ar C.size
 have bw := nb_ge ah E.lt
 have aU := nb_ge ah J.lt
 have aV := gb_ge ah C.size
 have bz := nb_ge ai E.lt
 have aW := nb_ge ai J.lt
 have aX := gb_ge ai C.size
 have aB : Mv [Z, W, O] [am, ao, aq, Z, W, O] aO aE := Mv.cons (Mv.cons (Mv.cons (Mv.ext aA) ai) ah) ar
 replace ⟨E, ac, ae, af, J, C⟩ := (sp aB aA).g6 E ac ae af J C
 clear aB aA ar ah ai
 replace ag : Own aE am 165 (nin (ge w.heap.size) [am, ao, aq, Z, W, O]) _ _ _ := Own.takeM (s0 := w.heap.size) (M := [Z, W, O]) ag ak au
 have bA := ag.max
 have bB := ag.len
 replace aa : Own aE ao 3 (nin (ge w.heap.size) [am, ao, aq, Z, W, O]) _ _ _ := Own.takeM (s0 := w.heap.size) (M := [Z, W, O]) aa ak au
 have bC := aa.max
 have bD := aa.len
 replace ab : Own aE aq 31 (nin (ge w.heap.size) [am, ao, aq, Z, W, O]) _ _ _ := Own.takeM (s0 := w.heap.size) (M := [Z, W, O]) ab ak au
 have bE := ab.max
 have bF := ab.len
 clear ak
 refine .r 1 <| .sc [.slice bc (((((copyS w_.store)).idx).names).length) bd, .slice bg (((((copyS w_.store)).idx).posts).length) bh, .slice bi ((((copyS w_.store)).parts).length) bj, vS Z bk bm, vS am bt bu, vS ao aJ aK, vS aq aL aM, vI (((copyD w_.disk)).next)] E fun bU aC aY aZ => ?_
 replace ⟨ac, ae, af, J, ag, aa, ab, C⟩ := (so [am, ao, aq, Z, W, O] aC).g8 ac ae af J ag aa ab C
 clear aC aZ
 exact .d <| .rb Tryz.func69 Tryz.results69 aY ⟨⟨bc, ((((copyS w_.store)).idx).names).length, bd, bg, ((((copyS w_.store)).idx).posts).length, bh, bi, (((copyS w_.store)).parts).length, bj, Z, bk, bm, am, bt, bu, ao, aJ, aK, aq, aL, aM, rfl, ((RepS.lessM ac (all_cons (.tail _ (.tail _ (.tail _ (.head _)))) (all_cons (.head _) (all_cons (.tail _ (.head _)) (all_cons (.tail _ (.tail _ (.head _))) all_nil))))).eqx (by rfl)), ((RepS.lessM ae (all_cons (.tail _ (.tail _ (.tail _ (.head _)))) (all_cons (.head _) (all_cons (.tail _ (.head _)) (all_cons (.tail _ (.tail _ (.head _))) all_nil))))).eqx (by rfl)), ((RepS.lessM af (all_cons (.tail _ (.tail _ (.tail _ (.head _)))) (all_cons (.head _) (all_cons (.tail _ (.head _)) (all_cons (.tail _ (.tail _ (.head _))) all_nil))))).eqx (by rfl)), ((Own.lessM J (all_cons (.tail _ (.tail _ (.tail _ (.head _)))) (all_cons (.head _) (all_cons (.tail _ (.head _)) (all_cons (.tail _ (.tail _ (.head _))) all_nil))))).eqx (by rfl)), bn, ((Own.lessM ag (all_cons (.tail _ (.tail _ (.tail _ (.head _)))) (all_cons (.head _) (all_cons (.tail _ (.head _)) (all_cons (.tail _ (.tail _ (.head _))) all_nil))))).eqx (by rfl)), aT, aS, ((Own.lessM aa (all_cons (.tail _ (.tail _ (.tail _ (.head _)))) (all_cons (.head _) (all_cons (.tail _ (.head _)) (all_cons (.tail _ (.tail _ (.head _))) all_nil))))).eqx (by rfl)), aV, aU, aP, ((Own.lessM ab (all_cons (.tail _ (.tail _ (.tail _ (.head _)))) (all_cons (.head _) (all_cons (.tail _ (.head _)) (all_cons (.tail _ (.tail _ (.head _))) all_nil))))).eqx (by rfl)), aX, aW, aQ, aR⟩, C⟩
theorem c_spec_l22Fall (w_ : Wld) {w : World} {F : Nat → Prop} {a1 : Option Addr} {n1 c1 : Nat} (h1 : RepS w F a1 n1 c1 w_.store.idx.names) {a2 : Option Addr} {n2 c2 : Nat} (h2 : RepS w F a2 n2 c2 w_.store.idx.posts) {a3 : Option Addr} {n3 c3 : Nat} (h3 : RepS w F a3 n3 c3 w_.store.parts) {a4 : Option Addr} {n4 c4 : Nat} (h4 : RepS w F a4 n4 c4 w_.store.mem) {a5 : Option Addr} {n5 c5 : Nat} (h5 : RepS w F a5 n5 c5 w_.disk.files) {a6 : Option Addr} {n6 c6 : Nat} (h6 : RepS w F a6 n6 c6 w_.disk.list) {a7 : Option Addr} {n7 c7 : Nat} (h7 : RepS w F a7 n7 c7 w_.disk.names) (p0 : DskI w_.disk) : Calls Tryz.prog 96 [.agg #[.slice a1 n1 c1, .slice a2 n2 c2, .slice a3 n3 c3, .slice a4 n4 c4, .slice a5 n5 c5, .slice a6 n6 c6, .slice a7 n7 c7, .int .i64 w_.disk.next]].toArray w (rets fun rv w' => VS (ge w.heap.size) w' (fallW w_ : Wld) rv ∧ Ext w w') := by
 refine goT Tryz.func96 ?_
 obtain ⟨rfl, cp, h1⟩ := h1.tp
 obtain ⟨rfl, cq, h2⟩ := h2.tp
 obtain ⟨rfl, cr, h3⟩ := h3.tp
 obtain ⟨rfl, cu, h4⟩ := h4.tp
 obtain ⟨rfl, cv, h5⟩ := h5.tp
 obtain ⟨rfl, cw, h6⟩ := h6.tp
 obtain ⟨rfl, cx, h7⟩ := h7.tp
 refine .s <| .g <| .np 53 [.slice a1 w_.store.idx.names.length c1, .slice a2 w_.store.idx.posts.length c2, .slice a3 w_.store.parts.length c3, .slice a4 w_.store.mem.length c4, .slice a5 w_.disk.files.length c5, .slice a6 w_.disk.list.length c6, .slice a7 w_.disk.names.length c7, vI w_.disk.next] fun E db aJ aK W bK => ?_
 have cy : Cov nil w E := cov_new aJ (Nat.le_refl _)
 replace ⟨h5, h6, h7⟩ := (sn [] aK aJ).g3 h5 h6 h7
 have C := aK
 clear aK bK aJ
 refine .np 53 [.slice none 0 0, .slice none 0 0, .slice none 0 0, .slice none 0 0, .slice none 0 0, .slice none 0 0, .slice none 0 0, vI 0] fun J bL aC bm O bM => ?_
 have cz := nb_new aC W.lt
 have cA := C.cn aC
 replace ⟨h5, h6, h7, W, C⟩ := (sn [E] bm aC).g5 h5 h6 h7 W C
 clear bm bM aC
 refine .d <| .s <| .g <| .r 1 <| .ln W <| .cl (c_spec_l21Tidy w_.disk h5 h6 h7 (by have := p0.nf; omega) (w := bL) (F := nin (fo F w.heap.size) [J, E])) ?_
 rintro dd bN ⟨⟨_, rfl, ⟨de, df, dg, dh, di, dj, dk, dm, dp, rfl, aL, aM, aN⟩⟩, bn⟩
 have aD := al2 O.lt W.lt
 have aO : Gb w.heap.size bL.heap.size := C.size
 replace ⟨W, O, C⟩ := (se [] bn).g3 W O C
 clear bn
 replace aL := RepS.mixed' (M := [J, E]) aL aD aO
 have cB := aL.max
 replace aM := RepS.mixed' (M := [J, E]) aM aD aO
 have cC := aM.max
 replace aN := RepS.mixed' (M := [J, E]) aN aD aO
 have cD := aN.max
 clear aD
 have bO := aL.len
 subst bO
 have bP := aM.len
 subst bP
 have bQ := aN.len
 subst bQ
 refine .cl (c_spec_l21Copy (tidyD w_.disk) aL.ta aM.ta aN.ta (by have := p0.tidy.nm.len; omega) (fun n hn => by have := (p0.tidy.nm.sz n hn).1; omega) (by have := p0.tidy.nl; omega) (by have := p0.tidy.nf; omega) (fun f hf => (p0.tidy.file f hf).sz) (w := bN) (F := all)) ?_
 rintro dq br ⟨⟨am, bd, bg, al, bh, bi, ak, bj, bk, rfl, ao, aE, aj, aF, cE, af, aG, cF, cG⟩, bo⟩
 have aH := al2 O.lt W.lt
 have aP : Gb w.heap.size bN.heap.size := C.size
 have cH := nb_ge aE W.lt
 have cI := nb_ge aE O.lt
 have bR := gb_ge aE C.size
 have cJ := nb_ge aF W.lt
 have cK := nb_ge aF O.lt
 have bt := gb_ge aF C.size
 have bU := nb_ge aG W.lt
 have bV := nb_ge aG O.lt
 have bu := gb_ge aG C.size
 replace ⟨W, O, C⟩ := (se [] bo).g3 W O C
 clear bo aE aF aG
 replace ao : Own br am 165 (nin (ge w.heap.size) [am, al, ak, J, E]) _ _ _ := Own.takeM (s0 := w.heap.size) (M := [J, E]) ao aH aP
 have bW := ao.max
 have bX := ao.len
 replace aj : Own br al 3 (nin (ge w.heap.size) [am, al, ak, J, E]) _ _ _ := Own.takeM (s0 := w.heap.size) (M := [J, E]) aj aH aP
 have bY := aj.max
 have bZ := aj.len
 replace af : Own br ak 31 (nin (ge w.heap.size) [am, al, ak, J, E]) _ _ _ := Own.takeM (s0 := w.heap.size) (M := [J, E]) af aH aP
 have b0 := af.max
 have b6 := af.len
 clear aH
 refine .r 1 <| .sb 4 (.agg #[vS am bd bg, vS al bh bi, vS ak bj bk, vI (((copyD (tidyD w_.disk))).next)]) [.slice a1 w_.store.idx.names.length c1, .slice a2 w_.store.idx.posts.length c2, .slice a3 w_.store.parts.length c3, .slice a4 w_.store.mem.length c4, vS am bd bg, vS al bh bi, vS ak bj bk, vI (((copyD (tidyD w_.disk))).next)] W fun ax aQ aa bv => ?_
 replace ⟨O, ao, aj, af, C⟩ := (so [am, al, ak, J, E] aQ).g5 O ao aj af C
 clear aQ bv
 refine .d <| .s <| .g <| .r 1 <| .ln aa ?_
 have V := ao.sl bR
 replace ⟨aj, af⟩ := (sd ax [am, al, ak, J, E] am).g2 aj af
 have Z := aj.sl bt
 replace ⟨V, af⟩ := (sd ax [al, ak, J, E] al).g2 V af
 have ac := af.sl bu
 replace ⟨V, Z⟩ := (sd ax [ak, J, E] ak).g2 V Z
 refine .cl (c_spec_l21Open ((copyD (tidyD w_.disk))) (V.base (fun _ _ h => .inr h)) (Z.base (fun _ _ h => .inr h)) (ac.base (fun _ _ h => .inr h)) (by have := p0.tidy.copy.nm.len; omega) p0.tidy.copy.nm.sz (by have := p0.tidy.copy.nl; omega) p0.tidy.copy.at (w := ax) (F := nin (fo F w.heap.size) [J, E])) ?_
 rintro cL bq ⟨⟨_, rfl, ⟨cM, cN, cO, cP, cQ, cR, cS, cT, cU, cV, cW, cX, rfl, ay, az, aA, aB⟩⟩, aR⟩
 have aq := al2 O.lt aa.lt
 have av : Gb w.heap.size ax.heap.size := C.size
 replace ⟨aa, O, V, Z, ac, C⟩ := (se [J, E] aR).g6 aa O V Z ac C
 clear aR
 replace ay := RepS.mixed' (M := [J, E]) ay aq av
 have b7 := ay.max
 replace az := RepS.mixed' (M := [J, E]) az aq av
 have b8 := az.max
 replace aA := RepS.mixed' (M := [J, E]) aA aq av
 have b9 := aA.max
 replace aB := RepS.mixed' (M := [J, E]) aB aq av
 have cd := aB.max
 clear aq
 have bw := ay.len
 subst bw
 have bz := az.len
 subst bz
 have bA := aA.len
 subst bA
 have bB := aB.len
 subst bB
 refine .cl (c_spec_l13Copy (⟨(⟨((openS ((copyD (tidyD w_.disk)))).idx).names, ((openS ((copyD (tidyD w_.disk)))).idx).posts⟩ : Idx), (openS ((copyD (tidyD w_.disk)))).parts, (openS ((copyD (tidyD w_.disk)))).mem⟩ : Sto) ay.ta az.ta aA.ta aB.ta p0.tidy.copy.open.sz (w := bq) (F := all)) ?_
 rintro cY aI ⟨⟨aS, cZ, aT, aU, c8, aV, aW, c9, aX, ae, aY, aZ, rfl, ag, ah, ai, ab, ar⟩, ba⟩
 have au := al2 O.lt aa.lt
 have aw : Gb w.heap.size bq.heap.size := C.size
 have ce := nb_ge ar aa.lt
 have cg := nb_ge ar O.lt
 have bC := gb_ge ar C.size
 replace ⟨aa, O, V, Z, ac, C⟩ := (sz [J, E] ba ar).g6 aa O V Z ac C
 clear ba ar
 replace ag : RepS aI (nin (ge w.heap.size) [ae, J, E]) _ _ _ _ := RepS.takeM (s0 := w.heap.size) (M := [J, E]) ag au aw
 have ci := ag.max
 replace ah : RepS aI (nin (ge w.heap.size) [ae, J, E]) _ _ _ _ := RepS.takeM (s0 := w.heap.size) (M := [J, E]) ah au aw
 have cj := ah.max
 replace ai : RepS aI (nin (ge w.heap.size) [ae, J, E]) _ _ _ _ := RepS.takeM (s0 := w.heap.size) (M := [J, E]) ai au aw
 have ck := ai.max
 replace ab : Own aI ae 62 (nin (ge w.heap.size) [ae, J, E]) _ _ _ := Own.takeM (s0 := w.heap.size) (M := [J, E]) ab au aw
 have cm := ab.max
 have co := ab.len
 clear au
 have bD := ag.len
 subst bD
 have bE := ah.len
 subst bE
 have bF := ai.len
 subst bF
 refine .r 1 <| .sb 0 (.agg #[.slice aS (((((copyS (⟨(⟨((openS ((copyD (tidyD w_.disk)))).idx).names, ((openS ((copyD (tidyD w_.disk)))).idx).posts⟩ : Idx), (openS ((copyD (tidyD w_.disk)))).parts, (openS ((copyD (tidyD w_.disk)))).mem⟩ : Sto))).idx).names).length) aT, .slice aU (((((copyS (⟨(⟨((openS ((copyD (tidyD w_.disk)))).idx).names, ((openS ((copyD (tidyD w_.disk)))).idx).posts⟩ : Idx), (openS ((copyD (tidyD w_.disk)))).parts, (openS ((copyD (tidyD w_.disk)))).mem⟩ : Sto))).idx).posts).length) aV, .slice aW ((((copyS (⟨(⟨((openS ((copyD (tidyD w_.disk)))).idx).names, ((openS ((copyD (tidyD w_.disk)))).idx).posts⟩ : Idx), (openS ((copyD (tidyD w_.disk)))).parts, (openS ((copyD (tidyD w_.disk)))).mem⟩ : Sto))).parts).length) aX, vS ae aY aZ]) [.slice aS (((((copyS (⟨(⟨((openS ((copyD (tidyD w_.disk)))).idx).names, ((openS ((copyD (tidyD w_.disk)))).idx).posts⟩ : Idx), (openS ((copyD (tidyD w_.disk)))).parts, (openS ((copyD (tidyD w_.disk)))).mem⟩ : Sto))).idx).names).length) aT, .slice aU (((((copyS (⟨(⟨((openS ((copyD (tidyD w_.disk)))).idx).names, ((openS ((copyD (tidyD w_.disk)))).idx).posts⟩ : Idx), (openS ((copyD (tidyD w_.disk)))).parts, (openS ((copyD (tidyD w_.disk)))).mem⟩ : Sto))).idx).posts).length) aV, .slice aW ((((copyS (⟨(⟨((openS ((copyD (tidyD w_.disk)))).idx).names, ((openS ((copyD (tidyD w_.disk)))).idx).posts⟩ : Idx), (openS ((copyD (tidyD w_.disk)))).parts, (openS ((copyD (tidyD w_.disk)))).mem⟩ : Sto))).parts).length) aX, vS ae aY aZ, vS am bd bg, vS al bh bi, vS ak bj bk, vI (((copyD (tidyD w_.disk))).next)] aa fun da bb bG bH => ?_
 replace ⟨O, V, Z, ac, ag, ah, ai, ab, C⟩ := (so [ae, J, E] bb).g9 O V Z ac ag ah ai ab C
 clear bb bH
 refine .d <| .s <| .g <| .ln bG <| .sc [.slice aS (((((copyS (⟨(⟨((openS ((copyD (tidyD w_.disk)))).idx).names, ((openS ((copyD (tidyD w_.disk)))).idx).posts⟩ : Idx), (openS ((copyD (tidyD w_.disk)))).parts, (openS ((copyD (tidyD w_.disk)))).mem⟩ : Sto))).idx).names).length) aT, .slice aU (((((copyS (⟨(⟨((openS ((copyD (tidyD w_.disk)))).idx).names, ((openS ((copyD (tidyD w_.disk)))).idx).posts⟩ : Idx), (openS ((copyD (tidyD w_.disk)))).parts, (openS ((copyD (tidyD w_.disk)))).mem⟩ : Sto))).idx).posts).length) aV, .slice aW ((((copyS (⟨(⟨((openS ((copyD (tidyD w_.disk)))).idx).names, ((openS ((copyD (tidyD w_.disk)))).idx).posts⟩ : Idx), (openS ((copyD (tidyD w_.disk)))).parts, (openS ((copyD (tidyD w_.disk)))).mem⟩ : Sto))).parts).length) aX, vS ae aY aZ, vS am bd bg, vS al bh bi, vS ak bj bk, vI (((copyD (tidyD w_.disk))).next)] O fun bS bc bI bJ => ?_
 replace ⟨V, Z, ac, ag, ah, ai, ab, C⟩ := (so [ae, J, E] bc).g8 V Z ac ag ah ai ab C
 clear bc bJ
 refine .d ?_
 have bT := ab.sl bC
 replace ⟨V, Z, ac, ag, ah, ai⟩ := (sd bS [ae, J, E] ae).g6 V Z ac ag ah ai
 exact .rb Tryz.func96 Tryz.results96 bI ⟨(VS.of (y := (⟨(⟨(⟨(((copyS (⟨(⟨((openS ((copyD (tidyD w_.disk)))).idx).names, ((openS ((copyD (tidyD w_.disk)))).idx).posts⟩ : Idx), (openS ((copyD (tidyD w_.disk)))).parts, (openS ((copyD (tidyD w_.disk)))).mem⟩ : Sto))).idx).names, (((copyS (⟨(⟨((openS ((copyD (tidyD w_.disk)))).idx).names, ((openS ((copyD (tidyD w_.disk)))).idx).posts⟩ : Idx), (openS ((copyD (tidyD w_.disk)))).parts, (openS ((copyD (tidyD w_.disk)))).mem⟩ : Sto))).idx).posts⟩ : Idx), ((copyS (⟨(⟨((openS ((copyD (tidyD w_.disk)))).idx).names, ((openS ((copyD (tidyD w_.disk)))).idx).posts⟩ : Idx), (openS ((copyD (tidyD w_.disk)))).parts, (openS ((copyD (tidyD w_.disk)))).mem⟩ : Sto))).parts, ((copyS (⟨(⟨((openS ((copyD (tidyD w_.disk)))).idx).names, ((openS ((copyD (tidyD w_.disk)))).idx).posts⟩ : Idx), (openS ((copyD (tidyD w_.disk)))).parts, (openS ((copyD (tidyD w_.disk)))).mem⟩ : Sto))).mem⟩ : Sto), (⟨((copyD (tidyD w_.disk))).files, ((copyD (tidyD w_.disk))).list, ((copyD (tidyD w_.disk))).names, ((copyD (tidyD w_.disk))).next⟩ : Dsk)⟩ : Wld)) ⟨_, rfl, ⟨_, _, _, _, _, _, _, _, _, _, _, _, _, _, _, _, _, _, _, _, _, rfl, ag.w1, ah.w1, ai.w1, bT.w1, V.w1, Z.w1, ac.w1⟩⟩ (by rfl)), C⟩
theorem c_spec_l22Steps (w_ : Wld) (steps : List Stp) (cut : Int) (s : Sto) {w : World} {F : Nat → Prop} {a1 : Option Addr} {n1 c1 : Nat} (h1 : RepS w F a1 n1 c1 w_.store.idx.names) {a2 : Option Addr} {n2 c2 : Nat} (h2 : RepS w F a2 n2 c2 w_.store.idx.posts) {a3 : Option Addr} {n3 c3 : Nat} (h3 : RepS w F a3 n3 c3 w_.store.parts) {a4 : Option Addr} {n4 c4 : Nat} (h4 : RepS w F a4 n4 c4 w_.store.mem) {a5 : Option Addr} {n5 c5 : Nat} (h5 : RepS w F a5 n5 c5 w_.disk.files) {a6 : Option Addr} {n6 c6 : Nat} (h6 : RepS w F a6 n6 c6 w_.disk.list) {a7 : Option Addr} {n7 c7 : Nat} (h7 : RepS w F a7 n7 c7 w_.disk.names) {a8 : Option Addr} {n8 c8 : Nat} (h8 : RepS w F a8 n8 c8 steps) {a9 : Option Addr} {n9 c9 : Nat} (h9 : RepS w F a9 n9 c9 s.idx.names) {a10 : Option Addr} {n10 c10 : Nat} (h10 : RepS w F a10 n10 c10 s.idx.posts) {a11 : Option Addr} {n11 c11 : Nat} (h11 : RepS w F a11 n11 c11 s.parts) {a12 : Option Addr} {n12 c12 : Nat} (h12 : RepS w F a12 n12 c12 s.mem) (p0 : WI w_) (p1 : StI w_.disk steps) (p2 : StoI s) : Calls Tryz.prog 92 [.agg #[.slice a1 n1 c1, .slice a2 n2 c2, .slice a3 n3 c3, .slice a4 n4 c4, .slice a5 n5 c5, .slice a6 n6 c6, .slice a7 n7 c7, .int .i64 w_.disk.next], .slice a8 n8 c8, .int .i64 cut, .agg #[.slice a9 n9 c9, .slice a10 n10 c10, .slice a11 n11 c11, .slice a12 n12 c12]].toArray w (rets fun rv w' => VS (fo F w.heap.size) w' (stepsW w_ steps cut s : Wld) rv ∧ Ext w w') := by
 refine goT Tryz.func92 ?_
 obtain ⟨rfl, bT, h1⟩ := h1.tp
 obtain ⟨rfl, bU, h2⟩ := h2.tp
 obtain ⟨rfl, bV, h3⟩ := h3.tp
 obtain ⟨rfl, bW, h4⟩ := h4.tp
 obtain ⟨rfl, bX, h5⟩ := h5.tp
 obtain ⟨rfl, bY, h6⟩ := h6.tp
 obtain ⟨rfl, bZ, h7⟩ := h7.tp
 obtain ⟨rfl, b0, h8⟩ := h8.tp
 obtain ⟨rfl, b6, h9⟩ := h9.tp
 obtain ⟨rfl, b7, h10⟩ := h10.tp
 obtain ⟨rfl, b8, h11⟩ := h11.tp
 obtain ⟨rfl, b9, h12⟩ := h12.tp
 refine .s <| .g <| .np 53 [.slice a1 w_.store.idx.names.length c1, .slice a2 w_.store.idx.posts.length c2, .slice a3 w_.store.parts.length c3, .slice a4 w_.store.mem.length c4, .slice a5 w_.disk.files.length c5, .slice a6 w_.disk.list.length c6, .slice a7 w_.disk.names.length c7, vI w_.disk.next] fun V cD ax ay J bj => ?_
 have cd : Cov nil w V := cov_new ax (Nat.le_refl _)
 replace ⟨h1, h2, h3, h4, h5, h6, h7, h8, h9, h10, h11, h12⟩ := (sn [] ay ax).g12 h1 h2 h3 h4 h5 h6 h7 h8 h9 h10 h11 h12
 have C := ay
 clear ay bj ax
 refine .np 30 [.slice a9 s.idx.names.length c9, .slice a10 s.idx.posts.length c10, .slice a11 s.parts.length c11, .slice a12 s.mem.length c12] fun W cE av az E bk => ?_
 have ce := nb_new av J.lt
 replace ⟨h1, h2, h3, h4, h5, h6, h7, h8, h9, h10, h11, h12⟩ := (sn [V] az av).g12 h1 h2 h3 h4 h5 h6 h7 h8 h9 h10 h11 h12
 replace ⟨J, C⟩ := (sn [V] az av).g2 J C
 clear az bk av
 refine .np 53 [.slice none 0 0, .slice none 0 0, .slice none 0 0, .slice none 0 0, .slice none 0 0, .slice none 0 0, .slice none 0 0, vI 0] fun aa bm aq aA O bn => ?_
 have cg := nb_new aq J.lt
 have ci := nb_new aq E.lt
 have cj := C.cn aq
 replace ⟨h1, h2, h3, h4, h5, h6, h7, h8, h9, h10, h11, h12⟩ := (sn [W, V] aA aq).g12 h1 h2 h3 h4 h5 h6 h7 h8 h9 h10 h11 h12
 replace ⟨J, E, C⟩ := (sn [W, V] aA aq).g3 J E C
 clear aA bn aq
 refine .d <| .s <| .s <| .g <| .r 2 <| .eq (steps.length : Int) 0 (fun bo => ?_) (fun bo => ?_)
 · refine .r 4 <| .d <| .ct <| .s <| .g <| .ln J <| .sc [.slice a1 w_.store.idx.names.length c1, .slice a2 w_.store.idx.posts.length c2, .slice a3 w_.store.parts.length c3, .slice a4 w_.store.mem.length c4, .slice a5 w_.disk.files.length c5, .slice a6 w_.disk.list.length c6, .slice a7 w_.disk.names.length c7, vI w_.disk.next] O fun cF aB bq br => ?_
   replace ⟨h1, h2, h3, h4, h5, h6, h7, h8, h9, h10, h11, h12⟩ := (so [aa, W, V] aB).g12 h1 h2 h3 h4 h5 h6 h7 h8 h9 h10 h11 h12
   replace ⟨J, E, C⟩ := (so [aa, W, V] aB).g3 J E C
   clear aB br
   exact .d <| .rb Tryz.func92 Tryz.results92 bq ⟨(VS.of (y := w_) ⟨_, rfl, ⟨_, _, _, _, _, _, _, _, _, _, _, _, _, _, _, _, _, _, _, _, _, rfl, h1.w1, h2.w1, h3.w1, h4.w1, h5.w1, h6.w1, h7.w1⟩⟩ (by first | rw [stepsW_0 (by omega)] | rw [stepsW_1 (by omega) (by omega) (by omega)] | rw [stepsW_2 (by omega) (by omega) (by omega)])), C⟩
 refine .r 2 <| .bp (cut < 0) (fun bt => ?_) (fun bt => ?_)
 · refine .r 1 <| .d <| .ct <| .s <| .g <| .ln J <| .sc [.slice a1 w_.store.idx.names.length c1, .slice a2 w_.store.idx.posts.length c2, .slice a3 w_.store.parts.length c3, .slice a4 w_.store.mem.length c4, .slice a5 w_.disk.files.length c5, .slice a6 w_.disk.list.length c6, .slice a7 w_.disk.names.length c7, vI w_.disk.next] O fun cG aC bu bv => ?_
   replace ⟨h1, h2, h3, h4, h5, h6, h7, h8, h9, h10, h11, h12⟩ := (so [aa, W, V] aC).g12 h1 h2 h3 h4 h5 h6 h7 h8 h9 h10 h11 h12
   replace ⟨J, E, C⟩ := (so [aa, W, V] aC).g3 J E C
   clear aC bv
   exact .d <| .rb Tryz.func92 Tryz.results92 bu ⟨(VS.of (y := w_) ⟨_, rfl, ⟨_, _, _, _, _, _, _, _, _, _, _, _, _, _, _, _, _, _, _, _, _, rfl, h1.w1, h2.w1, h3.w1, h4.w1, h5.w1, h6.w1, h7.w1⟩⟩ (by first | rw [stepsW_0 (by omega)] | rw [stepsW_1 (by omega) (by omega) (by omega)] | rw [stepsW_2 (by omega) (by omega) (by omega)])), C⟩
 refine .r 1 <| .d <| .cf <| .sk <| .s <| .g <| .r 1 <| .ln J <| .r 2 <| .cl (c_spec_l21To w_.disk steps cut h5 h6 h7 h8 (by have := p0.dsk.nf; omega) (by have := p1.len; omega) (by have := p0.dsk.nl; omega) p1.sz (w := bm) (F := nin (fo F w.heap.size) [aa, W, V])) ?_
 rintro cH cI ⟨⟨_, rfl, ⟨aH, cJ, aI, aJ, cK, aK, aL, cL, aM, rfl, ab, ac, ae⟩⟩, aN⟩
 have aw := al3 O.lt E.lt J.lt
 have aD : Gb w.heap.size bm.heap.size := C.size
 replace ⟨h1, h2, h3, h4, h9, h10, h11, h12, J, E, O, C⟩ := (se [aa, W, V] aN).g12 h1 h2 h3 h4 h9 h10 h11 h12 J E O C
 clear aN
 replace ab := RepS.mixed' (M := [aa, W, V]) ab aw aD
 have ck := ab.max
 replace ac := RepS.mixed' (M := [aa, W, V]) ac aw aD
 have cm := ac.max
 replace ae := RepS.mixed' (M := [aa, W, V]) ae aw aD
 have co := ae.max
 clear aw
 have aP := ab.len
 subst aP
 have aQ := ac.len
 subst aQ
 have aR := ae.len
 subst aR
 refine .r 1 <| .sb 4 (.agg #[.slice aH (((toD w_.disk steps cut).files).length) aI, .slice aJ (((toD w_.disk steps cut).list).length) aK, .slice aL (((toD w_.disk steps cut).names).length) aM, vI ((toD w_.disk steps cut).next)]) [.slice a1 w_.store.idx.names.length c1, .slice a2 w_.store.idx.posts.length c2, .slice a3 w_.store.parts.length c3, .slice a4 w_.store.mem.length c4, .slice aH (((toD w_.disk steps cut).files).length) aI, .slice aJ (((toD w_.disk steps cut).list).length) aK, .slice aL (((toD w_.disk steps cut).names).length) aM, vI ((toD w_.disk steps cut).next)] J fun aO ar af aS => ?_
 replace ⟨h1, h2, h3, h4, h9, h10, h11, h12, E, O, ab, ac⟩ := (so [aa, W, V] ar).g12 h1 h2 h3 h4 h9 h10 h11 h12 E O ab ac
 replace ⟨ae, C⟩ := (so [aa, W, V] ar).g2 ae C
 clear ar aS
 refine .d <| .s <| .s <| .g <| .r 3 <| .bp (cut < (steps.length : Int)) (fun aT => ?_) (fun aT => ?_)
 · refine .d <| .ct <| .s <| .g <| .ln af <| .cl (c_spec_l22Fall (⟨(⟨(⟨w_.store.idx.names, w_.store.idx.posts⟩ : Idx), w_.store.parts, w_.store.mem⟩ : Sto), (⟨(toD w_.disk steps cut).files, (toD w_.disk steps cut).list, (toD w_.disk steps cut).names, (toD w_.disk steps cut).next⟩ : Dsk)⟩ : Wld) h1.ta h2.ta h3.ta h4.ta ab.ta ac.ta ae.ta (p1.ok _) (w := aO) (F := all)) ?_
   rintro cp cq ⟨⟨_, rfl, ⟨bw, cr, bz, bA, cu, bB, bC, cv, bD, bE, cw, bF, bG, cx, bH, bI, cy, bJ, bK, cz, bL, rfl, ah, ai, aj, ak, al, am, ao⟩⟩, aE⟩
   have Z := al3 O.lt E.lt af.lt
   have ag : Gb w.heap.size aO.heap.size := C.size
   replace ⟨h9, h10, h11, h12, af, E, O, ab, ac, ae, C⟩ := (se [aa, W, V] aE).g11 h9 h10 h11 h12 af E O ab ac ae C
   clear aE
   have ah := ah.fr Z ag
   replace ah := ah.base (G' := fo F w.heap.size) (fun _ _ h => .inr h)
   have bM := ah.max
   have ai := ai.fr Z ag
   replace ai := ai.base (G' := fo F w.heap.size) (fun _ _ h => .inr h)
   have bN := ai.max
   have aj := aj.fr Z ag
   replace aj := aj.base (G' := fo F w.heap.size) (fun _ _ h => .inr h)
   have bO := aj.max
   have ak := ak.fr Z ag
   replace ak := ak.base (G' := fo F w.heap.size) (fun _ _ h => .inr h)
   have bP := ak.max
   have al := al.fr Z ag
   replace al := al.base (G' := fo F w.heap.size) (fun _ _ h => .inr h)
   have bQ := al.max
   have am := am.fr Z ag
   replace am := am.base (G' := fo F w.heap.size) (fun _ _ h => .inr h)
   have bR := am.max
   have ao := ao.fr Z ag
   replace ao := ao.base (G' := fo F w.heap.size) (fun _ _ h => .inr h)
   have bS := ao.max
   clear Z
   have aU := ah.len
   subst aU
   have aV := ai.len
   subst aV
   have aW := aj.len
   subst aW
   have aX := ak.len
   subst aX
   have aY := al.len
   subst aY
   have aZ := am.len
   subst aZ
   have ba := ao.len
   subst ba
   refine .sc [.slice bw (((((fallW (⟨(⟨(⟨w_.store.idx.names, w_.store.idx.posts⟩ : Idx), w_.store.parts, w_.store.mem⟩ : Sto), (⟨(toD w_.disk steps cut).files, (toD w_.disk steps cut).list, (toD w_.disk steps cut).names, (toD w_.disk steps cut).next⟩ : Dsk)⟩ : Wld)).store).idx).names).length) bz, .slice bA (((((fallW (⟨(⟨(⟨w_.store.idx.names, w_.store.idx.posts⟩ : Idx), w_.store.parts, w_.store.mem⟩ : Sto), (⟨(toD w_.disk steps cut).files, (toD w_.disk steps cut).list, (toD w_.disk steps cut).names, (toD w_.disk steps cut).next⟩ : Dsk)⟩ : Wld)).store).idx).posts).length) bB, .slice bC ((((fallW (⟨(⟨(⟨w_.store.idx.names, w_.store.idx.posts⟩ : Idx), w_.store.parts, w_.store.mem⟩ : Sto), (⟨(toD w_.disk steps cut).files, (toD w_.disk steps cut).list, (toD w_.disk steps cut).names, (toD w_.disk steps cut).next⟩ : Dsk)⟩ : Wld)).store).parts).length) bD, .slice bE ((((fallW (⟨(⟨(⟨w_.store.idx.names, w_.store.idx.posts⟩ : Idx), w_.store.parts, w_.store.mem⟩ : Sto), (⟨(toD w_.disk steps cut).files, (toD w_.disk steps cut).list, (toD w_.disk steps cut).names, (toD w_.disk steps cut).next⟩ : Dsk)⟩ : Wld)).store).mem).length) bF, .slice bG ((((fallW (⟨(⟨(⟨w_.store.idx.names, w_.store.idx.posts⟩ : Idx), w_.store.parts, w_.store.mem⟩ : Sto), (⟨(toD w_.disk steps cut).files, (toD w_.disk steps cut).list, (toD w_.disk steps cut).names, (toD w_.disk steps cut).next⟩ : Dsk)⟩ : Wld)).disk).files).length) bH, .slice bI ((((fallW (⟨(⟨(⟨w_.store.idx.names, w_.store.idx.posts⟩ : Idx), w_.store.parts, w_.store.mem⟩ : Sto), (⟨(toD w_.disk steps cut).files, (toD w_.disk steps cut).list, (toD w_.disk steps cut).names, (toD w_.disk steps cut).next⟩ : Dsk)⟩ : Wld)).disk).list).length) bJ, .slice bK ((((fallW (⟨(⟨(⟨w_.store.idx.names, w_.store.idx.posts⟩ : Idx), w_.store.parts, w_.store.mem⟩ : Sto), (⟨(toD w_.disk steps cut).files, (toD w_.disk steps cut).list, (toD w_.disk steps cut).names, (toD w_.disk steps cut).next⟩ : Dsk)⟩ : Wld)).disk).names).length) bL, vI (((fallW (⟨(⟨(⟨w_.store.idx.names, w_.store.idx.posts⟩ : Idx), w_.store.parts, w_.store.mem⟩ : Sto), (⟨(toD w_.disk steps cut).files, (toD w_.disk steps cut).list, (toD w_.disk steps cut).names, (toD w_.disk steps cut).next⟩ : Dsk)⟩ : Wld)).disk).next)] O fun cA au bb bc => ?_
   replace ⟨h9, h10, h11, h12, af, E, ab, ac, ae, ah, ai, aj⟩ := (so [aa, W, V] au).g12 h9 h10 h11 h12 af E ab ac ae ah ai aj
   replace ⟨ak, al, am, ao, C⟩ := (so [aa, W, V] au).g5 ak al am ao C
   clear au bc
   exact .d <| .rb Tryz.func92 Tryz.results92 bb ⟨(VS.of (y := (⟨(⟨(⟨(((fallW (⟨(⟨(⟨w_.store.idx.names, w_.store.idx.posts⟩ : Idx), w_.store.parts, w_.store.mem⟩ : Sto), (⟨(toD w_.disk steps cut).files, (toD w_.disk steps cut).list, (toD w_.disk steps cut).names, (toD w_.disk steps cut).next⟩ : Dsk)⟩ : Wld)).store).idx).names, (((fallW (⟨(⟨(⟨w_.store.idx.names, w_.store.idx.posts⟩ : Idx), w_.store.parts, w_.store.mem⟩ : Sto), (⟨(toD w_.disk steps cut).files, (toD w_.disk steps cut).list, (toD w_.disk steps cut).names, (toD w_.disk steps cut).next⟩ : Dsk)⟩ : Wld)).store).idx).posts⟩ : Idx), ((fallW (⟨(⟨(⟨w_.store.idx.names, w_.store.idx.posts⟩ : Idx), w_.store.parts, w_.store.mem⟩ : Sto), (⟨(toD w_.disk steps cut).files, (toD w_.disk steps cut).list, (toD w_.disk steps cut).names, (toD w_.disk steps cut).next⟩ : Dsk)⟩ : Wld)).store).parts, ((fallW (⟨(⟨(⟨w_.store.idx.names, w_.store.idx.posts⟩ : Idx), w_.store.parts, w_.store.mem⟩ : Sto), (⟨(toD w_.disk steps cut).files, (toD w_.disk steps cut).list, (toD w_.disk steps cut).names, (toD w_.disk steps cut).next⟩ : Dsk)⟩ : Wld)).store).mem⟩ : Sto), (⟨((fallW (⟨(⟨(⟨w_.store.idx.names, w_.store.idx.posts⟩ : Idx), w_.store.parts, w_.store.mem⟩ : Sto), (⟨(toD w_.disk steps cut).files, (toD w_.disk steps cut).list, (toD w_.disk steps cut).names, (toD w_.disk steps cut).next⟩ : Dsk)⟩ : Wld)).disk).files, ((fallW (⟨(⟨(⟨w_.store.idx.names, w_.store.idx.posts⟩ : Idx), w_.store.parts, w_.store.mem⟩ : Sto), (⟨(toD w_.disk steps cut).files, (toD w_.disk steps cut).list, (toD w_.disk steps cut).names, (toD w_.disk steps cut).next⟩ : Dsk)⟩ : Wld)).disk).list, ((fallW (⟨(⟨(⟨w_.store.idx.names, w_.store.idx.posts⟩ : Idx), w_.store.parts, w_.store.mem⟩ : Sto), (⟨(toD w_.disk steps cut).files, (toD w_.disk steps cut).list, (toD w_.disk steps cut).names, (toD w_.disk steps cut).next⟩ : Dsk)⟩ : Wld)).disk).names, ((fallW (⟨(⟨(⟨w_.store.idx.names, w_.store.idx.posts⟩ : Idx), w_.store.parts, w_.store.mem⟩ : Sto), (⟨(toD w_.disk steps cut).files, (toD w_.disk steps cut).list, (toD w_.disk steps cut).names, (toD w_.disk steps cut).next⟩ : Dsk)⟩ : Wld)).disk).next⟩ : Dsk)⟩ : Wld)) ⟨_, rfl, ⟨_, _, _, _, _, _, _, _, _, _, _, _, _, _, _, _, _, _, _, _, _, rfl, ah.w1, ai.w1, aj.w1, ak.w1, al.w1, am.w1, ao.w1⟩⟩ (by first | rw [stepsW_0 (by omega)] | rw [stepsW_1 (by omega) (by omega) (by omega)] | rw [stepsW_2 (by omega) (by omega) (by omega)])), C⟩
 refine .d <| .cf <| .sk <| .s <| .g <| .ln E <| .r 1 <| .sb 0 (.agg #[.slice a9 s.idx.names.length c9, .slice a10 s.idx.posts.length c10, .slice a11 s.parts.length c11, .slice a12 s.mem.length c12]) [.slice a9 s.idx.names.length c9, .slice a10 s.idx.posts.length c10, .slice a11 s.parts.length c11, .slice a12 s.mem.length c12, .slice aH (((toD w_.disk steps cut).files).length) aI, .slice aJ (((toD w_.disk steps cut).list).length) aK, .slice aL (((toD w_.disk steps cut).names).length) aM, vI ((toD w_.disk steps cut).next)] af fun cB aF bd bg => ?_
 replace ⟨h9, h10, h11, h12, O, ab, ac, ae, C⟩ := (so [aa, W, V] aF).g9 h9 h10 h11 h12 O ab ac ae C
 clear aF bg
 refine .d <| .s <| .g <| .ln bd <| .sc [.slice a9 s.idx.names.length c9, .slice a10 s.idx.posts.length c10, .slice a11 s.parts.length c11, .slice a12 s.mem.length c12, .slice aH (((toD w_.disk steps cut).files).length) aI, .slice aJ (((toD w_.disk steps cut).list).length) aK, .slice aL (((toD w_.disk steps cut).names).length) aM, vI ((toD w_.disk steps cut).next)] O fun cC aG bh bi => ?_
 replace ⟨h9, h10, h11, h12, ab, ac, ae, C⟩ := (so [aa, W, V] aG).g8 h9 h10 h11 h12 ab ac ae C
 clear aG bi
 exact .d <| .rb Tryz.func92 Tryz.results92 bh ⟨(VS.of (y := (⟨(⟨(⟨s.idx.names, s.idx.posts⟩ : Idx), s.parts, s.mem⟩ : Sto), (⟨(toD w_.disk steps cut).files, (toD w_.disk steps cut).list, (toD w_.disk steps cut).names, (toD w_.disk steps cut).next⟩ : Dsk)⟩ : Wld)) ⟨_, rfl, ⟨_, _, _, _, _, _, _, _, _, _, _, _, _, _, _, _, _, _, _, _, _, rfl, h9.w1, h10.w1, h11.w1, h12.w1, ab.w1, ac.w1, ae.w1⟩⟩ (by first | rw [stepsW_0 (by omega)] | rw [stepsW_1 (by omega) (by omega) (by omega)] | rw [stepsW_2 (by omega) (by omega) (by omega)])), C⟩
theorem c_spec_l22Do (w_ : Wld) (e : Evt) {w : World} {F : Nat → Prop} {a1 : Option Addr} {n1 c1 : Nat} (h1 : RepS w F a1 n1 c1 w_.store.idx.names) {a2 : Option Addr} {n2 c2 : Nat} (h2 : RepS w F a2 n2 c2 w_.store.idx.posts) {a3 : Option Addr} {n3 c3 : Nat} (h3 : RepS w F a3 n3 c3 w_.store.parts) {a4 : Option Addr} {n4 c4 : Nat} (h4 : RepS w F a4 n4 c4 w_.store.mem) {a5 : Option Addr} {n5 c5 : Nat} (h5 : RepS w F a5 n5 c5 w_.disk.files) {a6 : Option Addr} {n6 c6 : Nat} (h6 : RepS w F a6 n6 c6 w_.disk.list) {a7 : Option Addr} {n7 c7 : Nat} (h7 : RepS w F a7 n7 c7 w_.disk.names) {a8 : Option Addr} {n8 c8 : Nat} (h8 : RepS w F a8 n8 c8 e.name) (p0 : WI w_) (p1 : NmSz e.name) : Calls Tryz.prog 68 [.agg #[.slice a1 n1 c1, .slice a2 n2 c2, .slice a3 n3 c3, .slice a4 n4 c4, .slice a5 n5 c5, .slice a6 n6 c6, .slice a7 n7 c7, .int .i64 w_.disk.next], .agg #[.int .i64 e.kind, .int .i64 e.at_, .int .i64 e.cut, .slice a8 n8 c8, .int .i64 e.row.t, .int .i64 e.row.v]].toArray w (rets fun rv w' => VS (fo F w.heap.size) w' (doW w_ e : Wld) rv ∧ Ext w w') := by
 refine goT Tryz.func68 ?_
 obtain ⟨rfl, fD, h1⟩ := h1.tp
 obtain ⟨rfl, fE, h2⟩ := h2.tp
 obtain ⟨rfl, fF, h3⟩ := h3.tp
 obtain ⟨rfl, fG, h4⟩ := h4.tp
 obtain ⟨rfl, fH, h5⟩ := h5.tp
 obtain ⟨rfl, fI, h6⟩ := h6.tp
 obtain ⟨rfl, fJ, h7⟩ := h7.tp
 obtain ⟨rfl, fK, h8⟩ := h8.tp
 refine .s <| .g <| .np 53 [.slice a1 w_.store.idx.names.length c1, .slice a2 w_.store.idx.posts.length c2, .slice a3 w_.store.parts.length c3, .slice a4 w_.store.mem.length c4, .slice a5 w_.disk.files.length c5, .slice a6 w_.disk.list.length c6, .slice a7 w_.disk.names.length c7, vI w_.disk.next] fun V hE bK bL C dz => ?_
 have fL : Cov nil w V := cov_new bK (Nat.le_refl _)
 replace ⟨h1, h2, h3, h4, h5, h6, h7, h8⟩ := (sn [] bL bK).g8 h1 h2 h3 h4 h5 h6 h7 h8
 have E := bL
 clear bL dz bK
 refine .np 110 [vI e.kind, vI e.at_, vI e.cut, .slice a8 e.name.length c8, vI e.row.t, vI e.row.v] fun W hH bM cd J dA => ?_
 have fM := nb_new bM C.lt
 replace ⟨h1, h2, h3, h4, h5, h6, h7, h8, C, E⟩ := (sn [V] cd bM).g10 h1 h2 h3 h4 h5 h6 h7 h8 C E
 clear cd dA bM
 refine .np 53 [.slice none 0 0, .slice none 0 0, .slice none 0 0, .slice none 0 0, .slice none 0 0, .slice none 0 0, .slice none 0 0, vI 0] fun Z bq bn ce O dB => ?_
 have fN := nb_new bn C.lt
 have fO := nb_new bn J.lt
 have fP := E.cn bn
 replace ⟨h1, h2, h3, h4, h5, h6, h7, h8, C, J, E⟩ := (sn [W, V] ce bn).g11 h1 h2 h3 h4 h5 h6 h7 h8 C J E
 clear ce dB bn
 refine .d <| .s <| .s <| .g <| .r 1 <| .lb J <| .d <| .b 0 <| .s <| .g <| .eq e.kind 1 (fun dC => ?_) (fun dC => ?_)
 · refine .r 1 <| .d <| .ct <| .s <| .g <| .r 1 <| .lb J <| .cl (c_spec_NameOk e.name h8.ta (w := bq) (F := all)) ?_
   rintro hJ dD ⟨rfl, cg⟩
   replace ⟨h1, h2, h3, h4, h5, h6, h7, h8, C, J, O, E⟩ := (se [Z, W, V] cg).g12 h1 h2 h3 h4 h5 h6 h7 h8 C J O E
   clear cg
   cases fQ : (nameOk e.name)
   · refine .d <| .cf <| .sk <| .ib 0 <| .s <| .g <| .ln C <| .sc [.slice a1 w_.store.idx.names.length c1, .slice a2 w_.store.idx.posts.length c2, .slice a3 w_.store.parts.length c3, .slice a4 w_.store.mem.length c4, .slice a5 w_.disk.files.length c5, .slice a6 w_.disk.list.length c6, .slice a7 w_.disk.names.length c7, vI w_.disk.next] O fun hN ci dE dF => ?_
     replace ⟨h1, h2, h3, h4, h5, h6, h7, h8, C, J, E⟩ := (so [Z, W, V] ci).g11 h1 h2 h3 h4 h5 h6 h7 h8 C J E
     clear ci dF
     exact .d <| .rb Tryz.func68 Tryz.results68 dE ⟨(VS.of (y := w_) ⟨_, rfl, ⟨_, _, _, _, _, _, _, _, _, _, _, _, _, _, _, _, _, _, _, _, _, rfl, h1.w1, h2.w1, h3.w1, h4.w1, h5.w1, h6.w1, h7.w1⟩⟩ (by first | (rw [doW_1 (by assumption) (by assumption)]) | (rw [doW_1f (by assumption) (by assumption)]) | (rw [doW_2 (by assumption)]) | (rw [doW_3 (by assumption)]) | (rw [doW_4 (by assumption)]) | (rw [doW_0 (by assumption) (by assumption) (by assumption) (by assumption)]))), E⟩
   refine .d <| .ct <| .s <| .g <| .r 1 <| .ln C <| .r 1 <| .lb J <| .r 1 <| .ln J <| .cl (c_spec_l13Add w_.store e.name e.row h1 h2 h3 h4 h8 p0.sto.sz p1 (w := dD) (F := nin (fo F w.heap.size) [Z, W, V])) ?_
   rintro hO hP ⟨⟨hQ, rfl, ⟨_, rfl, ⟨bX, hV, bY, bZ, hW, b0, b6, hX, b7, b8, hY, b9, rfl, aI, aJ, aK, aL⟩⟩⟩, cj⟩
   have bo := al3 O.lt J.lt C.lt
   have bJ : Gb w.heap.size dD.heap.size := E.size
   replace ⟨h1, h2, h3, h4, h5, h6, h7, C, J, O, E⟩ := (se [Z, W, V] cj).g11 h1 h2 h3 h4 h5 h6 h7 C J O E
   clear cj
   replace aI := RepS.mixed' (M := [Z, W, V]) aI bo bJ
   have fR := aI.max
   replace aJ := RepS.mixed' (M := [Z, W, V]) aJ bo bJ
   have fS := aJ.max
   replace aK := RepS.mixed' (M := [Z, W, V]) aK bo bJ
   have fT := aK.max
   replace aL := RepS.mixed' (M := [Z, W, V]) aL bo bJ
   have fU := aL.max
   clear bo
   have dG := aI.len
   subst dG
   have dH := aJ.len
   subst dH
   have dI := aK.len
   subst dI
   have co := aL.len
   subst co
   refine .r 3 <| .np 30 [.slice none 0 0, .slice none 0 0, .slice none 0 0, .slice none 0 0] fun bh fV av br cp cq => ?_
   have eM := nb_new av C.lt
   have eN := nb_new av J.lt
   have eO := nb_new av O.lt
   have eP := E.cn av
   replace ⟨h1, h2, h3, h4, h5, h6, h7, C, J, O, aI, aJ⟩ := (sn [Z, W, V] br av).g12 h1 h2 h3 h4 h5 h6 h7 C J O aI aJ
   replace ⟨aK, aL, E⟩ := (sn [Z, W, V] br av).g3 aK aL E
   clear br cq av
   refine .sc [.slice bX (((((addS w_.store e.name e.row).1).idx).names).length) bY, .slice bZ (((((addS w_.store e.name e.row).1).idx).posts).length) b0, .slice b6 ((((addS w_.store e.name e.row).1).parts).length) b7, .slice b8 ((((addS w_.store e.name e.row).1).mem).length) b9] cp fun fW bt cr cu => ?_
   replace ⟨h1, h2, h3, h4, h5, h6, h7, C, J, O, aI, aJ⟩ := (so [bh, Z, W, V] bt).g12 h1 h2 h3 h4 h5 h6 h7 C J O aI aJ
   replace ⟨aK, aL, E⟩ := (so [bh, Z, W, V] bt).g3 aK aL E
   clear bt cu
   refine .r 1 <| .d <| .g <| .ln cr <| .r 1 <| .sb 0 (.agg #[.slice bX (((((addS w_.store e.name e.row).1).idx).names).length) bY, .slice bZ (((((addS w_.store e.name e.row).1).idx).posts).length) b0, .slice b6 ((((addS w_.store e.name e.row).1).parts).length) b7, .slice b8 ((((addS w_.store e.name e.row).1).mem).length) b9]) [.slice bX (((((addS w_.store e.name e.row).1).idx).names).length) bY, .slice bZ (((((addS w_.store e.name e.row).1).idx).posts).length) b0, .slice b6 ((((addS w_.store e.name e.row).1).parts).length) b7, .slice b8 ((((addS w_.store e.name e.row).1).mem).length) b9, .slice a5 w_.disk.files.length c5, .slice a6 w_.disk.list.length c6, .slice a7 w_.disk.names.length c7, vI w_.disk.next] C fun fX bu cv cw => ?_
   replace ⟨h1, h2, h3, h4, h5, h6, h7, J, O, aI, aJ, aK⟩ := (so [bh, Z, W, V] bu).g12 h1 h2 h3 h4 h5 h6 h7 J O aI aJ aK
   replace ⟨aL, E⟩ := (so [bh, Z, W, V] bu).g2 aL E
   clear bu cw
   refine .d <| .ib 0 <| .s <| .g <| .ln cv <| .sc [.slice bX (((((addS w_.store e.name e.row).1).idx).names).length) bY, .slice bZ (((((addS w_.store e.name e.row).1).idx).posts).length) b0, .slice b6 ((((addS w_.store e.name e.row).1).parts).length) b7, .slice b8 ((((addS w_.store e.name e.row).1).mem).length) b9, .slice a5 w_.disk.files.length c5, .slice a6 w_.disk.list.length c6, .slice a7 w_.disk.names.length c7, vI w_.disk.next] O fun fY bv cx cy => ?_
   replace ⟨h1, h2, h3, h4, h5, h6, h7, J, aI, aJ, aK, aL⟩ := (so [bh, Z, W, V] bv).g12 h1 h2 h3 h4 h5 h6 h7 J aI aJ aK aL
   replace E := (so [bh, Z, W, V] bv).g1 E
   clear bv cy
   exact .d <| .rb Tryz.func68 Tryz.results68 cx ⟨(VS.of (y := (⟨(⟨(⟨(((addS w_.store e.name e.row).1).idx).names, (((addS w_.store e.name e.row).1).idx).posts⟩ : Idx), ((addS w_.store e.name e.row).1).parts, ((addS w_.store e.name e.row).1).mem⟩ : Sto), (⟨w_.disk.files, w_.disk.list, w_.disk.names, w_.disk.next⟩ : Dsk)⟩ : Wld)) ⟨_, rfl, ⟨_, _, _, _, _, _, _, _, _, _, _, _, _, _, _, _, _, _, _, _, _, rfl, aI.w1, aJ.w1, aK.w1, aL.w1, h5.w1, h6.w1, h7.w1⟩⟩ (by first | (rw [doW_1 (by assumption) (by assumption)]) | (rw [doW_1f (by assumption) (by assumption)]) | (rw [doW_2 (by assumption)]) | (rw [doW_3 (by assumption)]) | (rw [doW_4 (by assumption)]) | (rw [doW_0 (by assumption) (by assumption) (by assumption) (by assumption)]))), E⟩
 refine .r 1 <| .d <| .cf <| .s <| .g <| .eq e.kind 2 (fun cz => ?_) (fun cz => ?_)
 · refine .r 1 <| .d <| .ct <| .s <| .g <| .r 1 <| .ln C <| .cl (c_spec_l13Flush w_.store h1 h2 h3 h4 (by have := p0.sto.nm2; omega) p0.sto.mem6 (w := bq) (F := nin (fo F w.heap.size) [Z, W, V])) ?_
   rintro fZ f0 ⟨⟨f3, rfl, ⟨_, rfl, ⟨dJ, f4, dK, dL, f5, dM, dN, f6, dO, dP, f7, dQ, rfl, ac, ae, af, ag⟩⟩⟩, bN⟩
   have aP := al3 O.lt J.lt C.lt
   have bi : Gb w.heap.size bq.heap.size := E.size
   replace ⟨h1, h2, h3, h4, h5, h6, h7, C, J, O, E⟩ := (se [Z, W, V] bN).g11 h1 h2 h3 h4 h5 h6 h7 C J O E
   clear bN
   replace ac := RepS.mixed' (M := [Z, W, V]) ac aP bi
   have eQ := ac.max
   replace ae := RepS.mixed' (M := [Z, W, V]) ae aP bi
   have eR := ae.max
   replace af := RepS.mixed' (M := [Z, W, V]) af aP bi
   have eS := af.max
   replace ag := RepS.mixed' (M := [Z, W, V]) ag aP bi
   have eT := ag.max
   clear aP
   have cA := ac.len
   subst cA
   have cB := ae.len
   subst cB
   have cC := af.len
   subst cC
   have cD := ag.len
   subst cD
   refine .r 3 <| .np 30 [.slice none 0 0, .slice none 0 0, .slice none 0 0, .slice none 0 0] fun aa f8 aw bw cE cF => ?_
   have eU := nb_new aw C.lt
   have eV := nb_new aw J.lt
   have eW := nb_new aw O.lt
   have eX := E.cn aw
   replace ⟨h1, h2, h3, h4, h5, h6, h7, C, J, O, ac, ae⟩ := (sn [Z, W, V] bw aw).g12 h1 h2 h3 h4 h5 h6 h7 C J O ac ae
   replace ⟨af, ag, E⟩ := (sn [Z, W, V] bw aw).g3 af ag E
   clear bw cF aw
   refine .sc [.slice dJ (((((flushR w_.store).1).idx).names).length) dK, .slice dL (((((flushR w_.store).1).idx).posts).length) dM, .slice dN ((((flushR w_.store).1).parts).length) dO, .slice dP ((((flushR w_.store).1).mem).length) dQ] cE fun f9 bz al cG => ?_
   replace ⟨h1, h2, h3, h4, h5, h6, h7, C, J, O, ac, ae⟩ := (so [aa, Z, W, V] bz).g12 h1 h2 h3 h4 h5 h6 h7 C J O ac ae
   replace ⟨af, ag, E⟩ := (so [aa, Z, W, V] bz).g3 af ag E
   clear bz cG
   refine .r 1 <| .d <| .s <| .gd nil 9 fun ga bA => ?_
   replace ⟨h1, h2, h3, h4, h5, h6, h7, C, J, O, ac, ae⟩ := (se [aa, Z, W, V] bA).g12 h1 h2 h3 h4 h5 h6 h7 C J O ac ae
   replace ⟨af, ag, al, E⟩ := (se [aa, Z, W, V] bA).g4 af ag al E
   clear bA
   refine .ln 0 C id <| .r [1] <| .ln 2 C id <| .r [3] <| .ln 4 C id <| .r [6] <| .lb 7 J id <| .ln 8 al id <| .go 5 <| .cl (fun bO ao => c_spec_l21Flush w_.disk w_.store (h5.ta.ext ao) (h6.ta.ext ao) (h7.ta.ext ao) (h1.ta.ext ao) (h2.ta.ext ao) (h3.ta.ext ao) (h4.ta.ext ao) (by have := p0.sto.nm2; omega) p0.sto.mem6 (by have := p0.dsk.nl; omega) (by have := p0.sto.nm.len; omega) (fun n hn => (p0.sto.nm.sz n hn).1) (w := bO) (F := all)) ?_
   intro bO ao
   replace ⟨h1, h2, h3, h4, h5, h6, h7, C, J, O, ac, ae⟩ := (se [aa, Z, W, V] ao).g12 h1 h2 h3 h4 h5 h6 h7 C J O ac ae
   replace ⟨af, ag, al, E⟩ := (se [aa, Z, W, V] ao).g4 af ag al E
   rintro gb gf ⟨⟨gg, gh, rfl, aN⟩, bj⟩
   have bP := al4 al.lt O.lt J.lt C.lt
   have cH : Gb w.heap.size bO.heap.size := E.size
   have hkeep_ := bj
   replace ⟨h1, h2, h3, h4, h5, h6, h7, C, J, O, ac, ae⟩ := (se [aa, Z, W, V] bj).g12 h1 h2 h3 h4 h5 h6 h7 C J O ac ae
   replace ⟨af, ag, al, E⟩ := (se [aa, Z, W, V] bj).g4 af ag al E
   clear bj
   refine ⟨Ext.chg hkeep_, ?_⟩
   have aN := aN.fr bP cH
   replace aN := aN.base (G' := fo F w.heap.size) (fun _ _ h => .inr h)
   have eY := aN.max
   clear bP
   refine .d fun ck bB => ?_
   replace ⟨h1, h2, h3, h4, h5, h6, h7, C, J, O, ac, ae⟩ := (se [aa, Z, W, V] bB).g12 h1 h2 h3 h4 h5 h6 h7 C J O ac ae
   replace ⟨af, ag, al, aN, E⟩ := (se [aa, Z, W, V] bB).g5 af ag al aN E
   clear bB
   refine .cl (c_spec_l22Steps w_ (flushSt w_.disk w_.store) e.cut (⟨(⟨(((flushR w_.store).1).idx).names, (((flushR w_.store).1).idx).posts⟩ : Idx), ((flushR w_.store).1).parts, ((flushR w_.store).1).mem⟩ : Sto) h1 h2 h3 h4 h5 h6 h7 aN ac ae af ag p0 (by first | exact StI.flush p0 | exact StI.merge p0.dsk _) (by first | exact p0.sto.flush | exact p0.sto.merge _) (w := ck) (F := nin (fo F w.heap.size) [aa, Z, W, V])) ?_
   rintro gi gj ⟨⟨_, rfl, ⟨dR, gk, dS, dT, gl, dU, dV, gm, dW, dX, gn, dY, dZ, gp, d0, d3, gq, d4, d5, gr, d6, rfl, aQ, aR, aS, aT, aU, aV, aW⟩⟩, bQ⟩
   have aq := al4 al.lt O.lt J.lt C.lt
   have ax : Gb w.heap.size ck.heap.size := E.size
   replace ⟨h1, h2, h3, h4, h5, h6, h7, C, J, O, E⟩ := (se [aa, Z, W, V] bQ).g11 h1 h2 h3 h4 h5 h6 h7 C J O E
   clear bQ
   replace aQ := RepS.mixed' (M := [aa, Z, W, V]) aQ aq ax
   have eZ := aQ.max
   replace aR := RepS.mixed' (M := [aa, Z, W, V]) aR aq ax
   have e0 := aR.max
   replace aS := RepS.mixed' (M := [aa, Z, W, V]) aS aq ax
   have e7 := aS.max
   replace aT := RepS.mixed' (M := [aa, Z, W, V]) aT aq ax
   have e8 := aT.max
   replace aU := RepS.mixed' (M := [aa, Z, W, V]) aU aq ax
   have e9 := aU.max
   replace aV := RepS.mixed' (M := [aa, Z, W, V]) aV aq ax
   have fa := aV.max
   replace aW := RepS.mixed' (M := [aa, Z, W, V]) aW aq ax
   have fb := aW.max
   clear aq
   have cI := aQ.len
   subst cI
   have cJ := aR.len
   subst cJ
   have cK := aS.len
   subst cK
   have cL := aT.len
   subst cL
   have cM := aU.len
   subst cM
   have cN := aV.len
   subst cN
   have cO := aW.len
   subst cO
   refine .sc [.slice dR (((((stepsW w_ (flushSt w_.disk w_.store) e.cut (⟨(⟨(((flushR w_.store).1).idx).names, (((flushR w_.store).1).idx).posts⟩ : Idx), ((flushR w_.store).1).parts, ((flushR w_.store).1).mem⟩ : Sto)).store).idx).names).length) dS, .slice dT (((((stepsW w_ (flushSt w_.disk w_.store) e.cut (⟨(⟨(((flushR w_.store).1).idx).names, (((flushR w_.store).1).idx).posts⟩ : Idx), ((flushR w_.store).1).parts, ((flushR w_.store).1).mem⟩ : Sto)).store).idx).posts).length) dU, .slice dV ((((stepsW w_ (flushSt w_.disk w_.store) e.cut (⟨(⟨(((flushR w_.store).1).idx).names, (((flushR w_.store).1).idx).posts⟩ : Idx), ((flushR w_.store).1).parts, ((flushR w_.store).1).mem⟩ : Sto)).store).parts).length) dW, .slice dX ((((stepsW w_ (flushSt w_.disk w_.store) e.cut (⟨(⟨(((flushR w_.store).1).idx).names, (((flushR w_.store).1).idx).posts⟩ : Idx), ((flushR w_.store).1).parts, ((flushR w_.store).1).mem⟩ : Sto)).store).mem).length) dY, .slice dZ ((((stepsW w_ (flushSt w_.disk w_.store) e.cut (⟨(⟨(((flushR w_.store).1).idx).names, (((flushR w_.store).1).idx).posts⟩ : Idx), ((flushR w_.store).1).parts, ((flushR w_.store).1).mem⟩ : Sto)).disk).files).length) d0, .slice d3 ((((stepsW w_ (flushSt w_.disk w_.store) e.cut (⟨(⟨(((flushR w_.store).1).idx).names, (((flushR w_.store).1).idx).posts⟩ : Idx), ((flushR w_.store).1).parts, ((flushR w_.store).1).mem⟩ : Sto)).disk).list).length) d4, .slice d5 ((((stepsW w_ (flushSt w_.disk w_.store) e.cut (⟨(⟨(((flushR w_.store).1).idx).names, (((flushR w_.store).1).idx).posts⟩ : Idx), ((flushR w_.store).1).parts, ((flushR w_.store).1).mem⟩ : Sto)).disk).names).length) d6, vI (((stepsW w_ (flushSt w_.disk w_.store) e.cut (⟨(⟨(((flushR w_.store).1).idx).names, (((flushR w_.store).1).idx).posts⟩ : Idx), ((flushR w_.store).1).parts, ((flushR w_.store).1).mem⟩ : Sto)).disk).next)] O fun gs bC cP cQ => ?_
   replace ⟨h1, h2, h3, h4, h5, h6, h7, C, J, aQ, aR, aS⟩ := (so [aa, Z, W, V] bC).g12 h1 h2 h3 h4 h5 h6 h7 C J aQ aR aS
   replace ⟨aT, aU, aV, aW, E⟩ := (so [aa, Z, W, V] bC).g5 aT aU aV aW E
   clear bC cQ
   exact .d <| .rb Tryz.func68 Tryz.results68 cP ⟨(VS.of (y := (⟨(⟨(⟨(((stepsW w_ (flushSt w_.disk w_.store) e.cut (⟨(⟨(((flushR w_.store).1).idx).names, (((flushR w_.store).1).idx).posts⟩ : Idx), ((flushR w_.store).1).parts, ((flushR w_.store).1).mem⟩ : Sto)).store).idx).names, (((stepsW w_ (flushSt w_.disk w_.store) e.cut (⟨(⟨(((flushR w_.store).1).idx).names, (((flushR w_.store).1).idx).posts⟩ : Idx), ((flushR w_.store).1).parts, ((flushR w_.store).1).mem⟩ : Sto)).store).idx).posts⟩ : Idx), ((stepsW w_ (flushSt w_.disk w_.store) e.cut (⟨(⟨(((flushR w_.store).1).idx).names, (((flushR w_.store).1).idx).posts⟩ : Idx), ((flushR w_.store).1).parts, ((flushR w_.store).1).mem⟩ : Sto)).store).parts, ((stepsW w_ (flushSt w_.disk w_.store) e.cut (⟨(⟨(((flushR w_.store).1).idx).names, (((flushR w_.store).1).idx).posts⟩ : Idx), ((flushR w_.store).1).parts, ((flushR w_.store).1).mem⟩ : Sto)).store).mem⟩ : Sto), (⟨((stepsW w_ (flushSt w_.disk w_.store) e.cut (⟨(⟨(((flushR w_.store).1).idx).names, (((flushR w_.store).1).idx).posts⟩ : Idx), ((flushR w_.store).1).parts, ((flushR w_.store).1).mem⟩ : Sto)).disk).files, ((stepsW w_ (flushSt w_.disk w_.store) e.cut (⟨(⟨(((flushR w_.store).1).idx).names, (((flushR w_.store).1).idx).posts⟩ : Idx), ((flushR w_.store).1).parts, ((flushR w_.store).1).mem⟩ : Sto)).disk).list, ((stepsW w_ (flushSt w_.disk w_.store) e.cut (⟨(⟨(((flushR w_.store).1).idx).names, (((flushR w_.store).1).idx).posts⟩ : Idx), ((flushR w_.store).1).parts, ((flushR w_.store).1).mem⟩ : Sto)).disk).names, ((stepsW w_ (flushSt w_.disk w_.store) e.cut (⟨(⟨(((flushR w_.store).1).idx).names, (((flushR w_.store).1).idx).posts⟩ : Idx), ((flushR w_.store).1).parts, ((flushR w_.store).1).mem⟩ : Sto)).disk).next⟩ : Dsk)⟩ : Wld)) ⟨_, rfl, ⟨_, _, _, _, _, _, _, _, _, _, _, _, _, _, _, _, _, _, _, _, _, rfl, aQ.w1, aR.w1, aS.w1, aT.w1, aU.w1, aV.w1, aW.w1⟩⟩ (by first | (rw [doW_1 (by assumption) (by assumption)]) | (rw [doW_1f (by assumption) (by assumption)]) | (rw [doW_2 (by assumption)]) | (rw [doW_3 (by assumption)]) | (rw [doW_4 (by assumption)]) | (rw [doW_0 (by assumption) (by assumption) (by assumption) (by assumption)]))), E⟩
 refine .r 1 <| .d <| .cf <| .s <| .g <| .eq e.kind 3 (fun cR => ?_) (fun cR => ?_)
 · refine .r 1 <| .d <| .ct <| .s <| .g <| .r 1 <| .ln C <| .r 1 <| .lb J <| .cl (c_spec_l13Merge w_.store e.at_ h1 h2 h3 h4 (by have := p0.sto.np; omega) (fun p hp => (p0.sto.part p hp).sz) (w := bq) (F := nin (fo F w.heap.size) [Z, W, V])) ?_
   rintro gt gu ⟨⟨gv, rfl, ⟨_, rfl, ⟨d7, gw, d8, d9, gx, ea, eb, gy, ec, ed, gz, ee, rfl, ah, ai, aj, ak⟩⟩⟩, bR⟩
   have aX := al3 O.lt J.lt C.lt
   have bk : Gb w.heap.size bq.heap.size := E.size
   replace ⟨h1, h2, h3, h4, h5, h6, h7, C, J, O, E⟩ := (se [Z, W, V] bR).g11 h1 h2 h3 h4 h5 h6 h7 C J O E
   clear bR
   replace ah := RepS.mixed' (M := [Z, W, V]) ah aX bk
   have fc := ah.max
   replace ai := RepS.mixed' (M := [Z, W, V]) ai aX bk
   have fd := ai.max
   replace aj := RepS.mixed' (M := [Z, W, V]) aj aX bk
   have fe := aj.max
   replace ak := RepS.mixed' (M := [Z, W, V]) ak aX bk
   have ff := ak.max
   clear aX
   have cS := ah.len
   subst cS
   have cT := ai.len
   subst cT
   have cU := aj.len
   subst cU
   have cV := ak.len
   subst cV
   refine .r 3 <| .np 30 [.slice none 0 0, .slice none 0 0, .slice none 0 0, .slice none 0 0] fun ab gA ay bD cW cX => ?_
   have fg := nb_new ay C.lt
   have fh := nb_new ay J.lt
   have fi := nb_new ay O.lt
   have fj := E.cn ay
   replace ⟨h1, h2, h3, h4, h5, h6, h7, C, J, O, ah, ai⟩ := (sn [Z, W, V] bD ay).g12 h1 h2 h3 h4 h5 h6 h7 C J O ah ai
   replace ⟨aj, ak, E⟩ := (sn [Z, W, V] bD ay).g3 aj ak E
   clear bD cX ay
   refine .sc [.slice d7 (((((mergeR w_.store e.at_).1).idx).names).length) d8, .slice d9 (((((mergeR w_.store e.at_).1).idx).posts).length) ea, .slice eb ((((mergeR w_.store e.at_).1).parts).length) ec, .slice ed ((((mergeR w_.store e.at_).1).mem).length) ee] cW fun gC bE am cY => ?_
   replace ⟨h1, h2, h3, h4, h5, h6, h7, C, J, O, ah, ai⟩ := (so [ab, Z, W, V] bE).g12 h1 h2 h3 h4 h5 h6 h7 C J O ah ai
   replace ⟨aj, ak, E⟩ := (so [ab, Z, W, V] bE).g3 aj ak E
   clear bE cY
   refine .r 1 <| .d <| .s <| .gd nil 9 fun gD bF => ?_
   replace ⟨h1, h2, h3, h4, h5, h6, h7, C, J, O, ah, ai⟩ := (se [ab, Z, W, V] bF).g12 h1 h2 h3 h4 h5 h6 h7 C J O ah ai
   replace ⟨aj, ak, am, E⟩ := (se [ab, Z, W, V] bF).g4 aj ak am E
   clear bF
   refine .ln 0 C id <| .r [1] <| .ln 2 C id <| .r [3] <| .lb 4 J id <| .r [6] <| .lb 7 J id <| .ln 8 am id <| .go 5 <| .cl (fun bS aM => c_spec_l21Merge w_.disk e.at_ (h5.ta.ext aM) (h6.ta.ext aM) (h7.ta.ext aM) (by have := p0.dsk.nm.len; omega) (fun n hn => (p0.dsk.nm.sz n hn).1) (by have := p0.dsk.nl; omega) p0.dsk.at (fun f hf => (p0.dsk.file f hf).sz) (w := bS) (F := all)) ?_
   intro bS aM
   replace ⟨h1, h2, h3, h4, h5, h6, h7, C, J, O, ah, ai⟩ := (se [ab, Z, W, V] aM).g12 h1 h2 h3 h4 h5 h6 h7 C J O ah ai
   replace ⟨aj, ak, am, E⟩ := (se [ab, Z, W, V] aM).g4 aj ak am E
   rintro gE gF ⟨⟨gG, gH, rfl, aO⟩, bm⟩
   have bT := al4 am.lt O.lt J.lt C.lt
   have cZ : Gb w.heap.size bS.heap.size := E.size
   have hkeep_ := bm
   replace ⟨h1, h2, h3, h4, h5, h6, h7, C, J, O, ah, ai⟩ := (se [ab, Z, W, V] bm).g12 h1 h2 h3 h4 h5 h6 h7 C J O ah ai
   replace ⟨aj, ak, am, E⟩ := (se [ab, Z, W, V] bm).g4 aj ak am E
   clear bm
   refine ⟨Ext.chg hkeep_, ?_⟩
   have aO := aO.fr bT cZ
   replace aO := aO.base (G' := fo F w.heap.size) (fun _ _ h => .inr h)
   have fk := aO.max
   clear bT
   refine .d fun cm bG => ?_
   replace ⟨h1, h2, h3, h4, h5, h6, h7, C, J, O, ah, ai⟩ := (se [ab, Z, W, V] bG).g12 h1 h2 h3 h4 h5 h6 h7 C J O ah ai
   replace ⟨aj, ak, am, aO, E⟩ := (se [ab, Z, W, V] bG).g5 aj ak am aO E
   clear bG
   refine .cl (c_spec_l22Steps w_ (mergeSt w_.disk e.at_) e.cut (⟨(⟨(((mergeR w_.store e.at_).1).idx).names, (((mergeR w_.store e.at_).1).idx).posts⟩ : Idx), ((mergeR w_.store e.at_).1).parts, ((mergeR w_.store e.at_).1).mem⟩ : Sto) h1 h2 h3 h4 h5 h6 h7 aO ah ai aj ak p0 (by first | exact StI.flush p0 | exact StI.merge p0.dsk _) (by first | exact p0.sto.flush | exact p0.sto.merge _) (w := cm) (F := nin (fo F w.heap.size) [ab, Z, W, V])) ?_
   rintro gI gJ ⟨⟨_, rfl, ⟨ef, gK, eg, eh, gL, ei, ej, gM, ek, em, gN, en, eo, gO, ep, es, gP, et, ew, gQ, ex, rfl, aY, aZ, ba, bb, bc, bd, bg⟩⟩, bU⟩
   have ar := al4 am.lt O.lt J.lt C.lt
   have az : Gb w.heap.size cm.heap.size := E.size
   replace ⟨h1, h2, h3, h4, h5, h6, h7, C, J, O, E⟩ := (se [ab, Z, W, V] bU).g11 h1 h2 h3 h4 h5 h6 h7 C J O E
   clear bU
   replace aY := RepS.mixed' (M := [ab, Z, W, V]) aY ar az
   have fl := aY.max
   replace aZ := RepS.mixed' (M := [ab, Z, W, V]) aZ ar az
   have fm := aZ.max
   replace ba := RepS.mixed' (M := [ab, Z, W, V]) ba ar az
   have fp := ba.max
   replace bb := RepS.mixed' (M := [ab, Z, W, V]) bb ar az
   have fq := bb.max
   replace bc := RepS.mixed' (M := [ab, Z, W, V]) bc ar az
   have ft := bc.max
   replace bd := RepS.mixed' (M := [ab, Z, W, V]) bd ar az
   have fu := bd.max
   replace bg := RepS.mixed' (M := [ab, Z, W, V]) bg ar az
   have fv := bg.max
   clear ar
   have c9 := aY.len
   subst c9
   have da := aZ.len
   subst da
   have db := ba.len
   subst db
   have dd := bb.len
   subst dd
   have de := bc.len
   subst de
   have df := bd.len
   subst df
   have dg := bg.len
   subst dg
   refine .sc [.slice ef (((((stepsW w_ (mergeSt w_.disk e.at_) e.cut (⟨(⟨(((mergeR w_.store e.at_).1).idx).names, (((mergeR w_.store e.at_).1).idx).posts⟩ : Idx), ((mergeR w_.store e.at_).1).parts, ((mergeR w_.store e.at_).1).mem⟩ : Sto)).store).idx).names).length) eg, .slice eh (((((stepsW w_ (mergeSt w_.disk e.at_) e.cut (⟨(⟨(((mergeR w_.store e.at_).1).idx).names, (((mergeR w_.store e.at_).1).idx).posts⟩ : Idx), ((mergeR w_.store e.at_).1).parts, ((mergeR w_.store e.at_).1).mem⟩ : Sto)).store).idx).posts).length) ei, .slice ej ((((stepsW w_ (mergeSt w_.disk e.at_) e.cut (⟨(⟨(((mergeR w_.store e.at_).1).idx).names, (((mergeR w_.store e.at_).1).idx).posts⟩ : Idx), ((mergeR w_.store e.at_).1).parts, ((mergeR w_.store e.at_).1).mem⟩ : Sto)).store).parts).length) ek, .slice em ((((stepsW w_ (mergeSt w_.disk e.at_) e.cut (⟨(⟨(((mergeR w_.store e.at_).1).idx).names, (((mergeR w_.store e.at_).1).idx).posts⟩ : Idx), ((mergeR w_.store e.at_).1).parts, ((mergeR w_.store e.at_).1).mem⟩ : Sto)).store).mem).length) en, .slice eo ((((stepsW w_ (mergeSt w_.disk e.at_) e.cut (⟨(⟨(((mergeR w_.store e.at_).1).idx).names, (((mergeR w_.store e.at_).1).idx).posts⟩ : Idx), ((mergeR w_.store e.at_).1).parts, ((mergeR w_.store e.at_).1).mem⟩ : Sto)).disk).files).length) ep, .slice es ((((stepsW w_ (mergeSt w_.disk e.at_) e.cut (⟨(⟨(((mergeR w_.store e.at_).1).idx).names, (((mergeR w_.store e.at_).1).idx).posts⟩ : Idx), ((mergeR w_.store e.at_).1).parts, ((mergeR w_.store e.at_).1).mem⟩ : Sto)).disk).list).length) et, .slice ew ((((stepsW w_ (mergeSt w_.disk e.at_) e.cut (⟨(⟨(((mergeR w_.store e.at_).1).idx).names, (((mergeR w_.store e.at_).1).idx).posts⟩ : Idx), ((mergeR w_.store e.at_).1).parts, ((mergeR w_.store e.at_).1).mem⟩ : Sto)).disk).names).length) ex, vI (((stepsW w_ (mergeSt w_.disk e.at_) e.cut (⟨(⟨(((mergeR w_.store e.at_).1).idx).names, (((mergeR w_.store e.at_).1).idx).posts⟩ : Idx), ((mergeR w_.store e.at_).1).parts, ((mergeR w_.store e.at_).1).mem⟩ : Sto)).disk).next)] O fun gR bH dh di => ?_
   replace ⟨h1, h2, h3, h4, h5, h6, h7, C, J, aY, aZ, ba⟩ := (so [ab, Z, W, V] bH).g12 h1 h2 h3 h4 h5 h6 h7 C J aY aZ ba
   replace ⟨bb, bc, bd, bg, E⟩ := (so [ab, Z, W, V] bH).g5 bb bc bd bg E
   clear bH di
   exact .d <| .rb Tryz.func68 Tryz.results68 dh ⟨(VS.of (y := (⟨(⟨(⟨(((stepsW w_ (mergeSt w_.disk e.at_) e.cut (⟨(⟨(((mergeR w_.store e.at_).1).idx).names, (((mergeR w_.store e.at_).1).idx).posts⟩ : Idx), ((mergeR w_.store e.at_).1).parts, ((mergeR w_.store e.at_).1).mem⟩ : Sto)).store).idx).names, (((stepsW w_ (mergeSt w_.disk e.at_) e.cut (⟨(⟨(((mergeR w_.store e.at_).1).idx).names, (((mergeR w_.store e.at_).1).idx).posts⟩ : Idx), ((mergeR w_.store e.at_).1).parts, ((mergeR w_.store e.at_).1).mem⟩ : Sto)).store).idx).posts⟩ : Idx), ((stepsW w_ (mergeSt w_.disk e.at_) e.cut (⟨(⟨(((mergeR w_.store e.at_).1).idx).names, (((mergeR w_.store e.at_).1).idx).posts⟩ : Idx), ((mergeR w_.store e.at_).1).parts, ((mergeR w_.store e.at_).1).mem⟩ : Sto)).store).parts, ((stepsW w_ (mergeSt w_.disk e.at_) e.cut (⟨(⟨(((mergeR w_.store e.at_).1).idx).names, (((mergeR w_.store e.at_).1).idx).posts⟩ : Idx), ((mergeR w_.store e.at_).1).parts, ((mergeR w_.store e.at_).1).mem⟩ : Sto)).store).mem⟩ : Sto), (⟨((stepsW w_ (mergeSt w_.disk e.at_) e.cut (⟨(⟨(((mergeR w_.store e.at_).1).idx).names, (((mergeR w_.store e.at_).1).idx).posts⟩ : Idx), ((mergeR w_.store e.at_).1).parts, ((mergeR w_.store e.at_).1).mem⟩ : Sto)).disk).files, ((stepsW w_ (mergeSt w_.disk e.at_) e.cut (⟨(⟨(((mergeR w_.store e.at_).1).idx).names, (((mergeR w_.store e.at_).1).idx).posts⟩ : Idx), ((mergeR w_.store e.at_).1).parts, ((mergeR w_.store e.at_).1).mem⟩ : Sto)).disk).list, ((stepsW w_ (mergeSt w_.disk e.at_) e.cut (⟨(⟨(((mergeR w_.store e.at_).1).idx).names, (((mergeR w_.store e.at_).1).idx).posts⟩ : Idx), ((mergeR w_.store e.at_).1).parts, ((mergeR w_.store e.at_).1).mem⟩ : Sto)).disk).names, ((stepsW w_ (mergeSt w_.disk e.at_) e.cut (⟨(⟨(((mergeR w_.store e.at_).1).idx).names, (((mergeR w_.store e.at_).1).idx).posts⟩ : Idx), ((mergeR w_.store e.at_).1).parts, ((mergeR w_.store e.at_).1).mem⟩ : Sto)).disk).next⟩ : Dsk)⟩ : Wld)) ⟨_, rfl, ⟨_, _, _, _, _, _, _, _, _, _, _, _, _, _, _, _, _, _, _, _, _, rfl, aY.w1, aZ.w1, ba.w1, bb.w1, bc.w1, bd.w1, bg.w1⟩⟩ (by first | (rw [doW_1 (by assumption) (by assumption)]) | (rw [doW_1f (by assumption) (by assumption)]) | (rw [doW_2 (by assumption)]) | (rw [doW_3 (by assumption)]) | (rw [doW_4 (by assumption)]) | (rw [doW_0 (by assumption) (by assumption) (by assumption) (by assumption)]))), E⟩
 refine .r 1 <| .d <| .cf <| .s <| .g <| .eq e.kind 4 (fun dj => ?_) (fun dj => ?_)
 · refine .r 1 <| .d <| .ct <| .s <| .g <| .ln C <| .cl (c_spec_l22Fall w_ h1.ta h2.ta h3.ta h4.ta h5.ta h6.ta h7.ta p0.dsk (w := bq) (F := all)) ?_
   rintro gS gT ⟨⟨_, rfl, ⟨ey, gU, ez, eA, gV, eB, eC, gW, eD, eE, gX, eF, eG, gY, eH, eI, gZ, eJ, eK, g0, eL, rfl, aB, aC, aD, aE, aF, aG, aH⟩⟩, bV⟩
   have au := al3 O.lt J.lt C.lt
   have aA : Gb w.heap.size bq.heap.size := E.size
   replace ⟨h1, h2, h3, h4, h5, h6, h7, C, O, E⟩ := (se [Z, W, V] bV).g10 h1 h2 h3 h4 h5 h6 h7 C O E
   clear bV
   have aB := aB.fr au aA
   replace aB := aB.base (G' := fo F w.heap.size) (fun _ _ h => .inr h)
   have fw := aB.max
   have aC := aC.fr au aA
   replace aC := aC.base (G' := fo F w.heap.size) (fun _ _ h => .inr h)
   have fx := aC.max
   have aD := aD.fr au aA
   replace aD := aD.base (G' := fo F w.heap.size) (fun _ _ h => .inr h)
   have fy := aD.max
   have aE := aE.fr au aA
   replace aE := aE.base (G' := fo F w.heap.size) (fun _ _ h => .inr h)
   have fz := aE.max
   have aF := aF.fr au aA
   replace aF := aF.base (G' := fo F w.heap.size) (fun _ _ h => .inr h)
   have fA := aF.max
   have aG := aG.fr au aA
   replace aG := aG.base (G' := fo F w.heap.size) (fun _ _ h => .inr h)
   have fB := aG.max
   have aH := aH.fr au aA
   replace aH := aH.base (G' := fo F w.heap.size) (fun _ _ h => .inr h)
   have fC := aH.max
   clear au
   have dk := aB.len
   subst dk
   have dm := aC.len
   subst dm
   have dp := aD.len
   subst dp
   have dq := aE.len
   subst dq
   have dr := aF.len
   subst dr
   have dt := aG.len
   subst dt
   have du := aH.len
   subst du
   refine .sc [.slice ey (((((fallW w_).store).idx).names).length) ez, .slice eA (((((fallW w_).store).idx).posts).length) eB, .slice eC ((((fallW w_).store).parts).length) eD, .slice eE ((((fallW w_).store).mem).length) eF, .slice eG ((((fallW w_).disk).files).length) eH, .slice eI ((((fallW w_).disk).list).length) eJ, .slice eK ((((fallW w_).disk).names).length) eL, vI (((fallW w_).disk).next)] O fun hC bI dv dw => ?_
   replace ⟨h1, h2, h3, h4, h5, h6, h7, C, aB, aC, aD, aE⟩ := (so [Z, W, V] bI).g12 h1 h2 h3 h4 h5 h6 h7 C aB aC aD aE
   replace ⟨aF, aG, aH, E⟩ := (so [Z, W, V] bI).g4 aF aG aH E
   clear bI dw
   exact .d <| .rb Tryz.func68 Tryz.results68 dv ⟨(VS.of (y := (⟨(⟨(⟨(((fallW w_).store).idx).names, (((fallW w_).store).idx).posts⟩ : Idx), ((fallW w_).store).parts, ((fallW w_).store).mem⟩ : Sto), (⟨((fallW w_).disk).files, ((fallW w_).disk).list, ((fallW w_).disk).names, ((fallW w_).disk).next⟩ : Dsk)⟩ : Wld)) ⟨_, rfl, ⟨_, _, _, _, _, _, _, _, _, _, _, _, _, _, _, _, _, _, _, _, _, rfl, aB.w1, aC.w1, aD.w1, aE.w1, aF.w1, aG.w1, aH.w1⟩⟩ (by first | (rw [doW_1 (by assumption) (by assumption)]) | (rw [doW_1f (by assumption) (by assumption)]) | (rw [doW_2 (by assumption)]) | (rw [doW_3 (by assumption)]) | (rw [doW_4 (by assumption)]) | (rw [doW_0 (by assumption) (by assumption) (by assumption) (by assumption)]))), E⟩
 refine .r 1 <| .d <| .cf <| .sk <| .ib 0 <| .s <| .g <| .ln C <| .sc [.slice a1 w_.store.idx.names.length c1, .slice a2 w_.store.idx.posts.length c2, .slice a3 w_.store.parts.length c3, .slice a4 w_.store.mem.length c4, .slice a5 w_.disk.files.length c5, .slice a6 w_.disk.list.length c6, .slice a7 w_.disk.names.length c7, vI w_.disk.next] O fun hD bW dx dy => ?_
 replace ⟨h1, h2, h3, h4, h5, h6, h7, E⟩ := (so [Z, W, V] bW).g8 h1 h2 h3 h4 h5 h6 h7 E
 clear bW dy
 exact .d <| .rb Tryz.func68 Tryz.results68 dx ⟨(VS.of (y := w_) ⟨_, rfl, ⟨_, _, _, _, _, _, _, _, _, _, _, _, _, _, _, _, _, _, _, _, _, rfl, h1.w1, h2.w1, h3.w1, h4.w1, h5.w1, h6.w1, h7.w1⟩⟩ (by first | (rw [doW_1 (by assumption) (by assumption)]) | (rw [doW_1f (by assumption) (by assumption)]) | (rw [doW_2 (by assumption)]) | (rw [doW_3 (by assumption)]) | (rw [doW_4 (by assumption)]) | (rw [doW_0 (by assumption) (by assumption) (by assumption) (by assumption)]))), E⟩
end Go.Proofs.YtndljnhfkdhggaaGreat